import Derived.Test.YtkagkgjjfdkoaaaGreatMCross
set_option linter.unusedVariables false
set_option linter.unusedSimpArgs false
namespace Go.Proofs.YtkagkgjjfdkoaaaGreat
open Go Go.RowKit
theorem Zv {a b c d q:Pn} (h:q∈Q0 a b c d) :Q1 a b c d=1∨Q1 a b c d=3:=by
 unfold Q1
 have: (Q0 a b c d).length≠0:=fun e=>by
  have:=je9 e
  rw [this] at h
  cases h
 rw [if_neg this]
 split<;>simp
theorem XT {a b c d q r:Pn} (h:q∈Q0 a b c d) (h':r∈Q0 a b c d) (hne:q≠r) :Q1 a b c d=3:=by
 unfold Q1
 match hl:Q0 a b c d,h,h' with
 | [x],h,h'=>exact absurd ((jeT.1 h).trans (jeT.1 h').symm) hne
 | x::y::l,_,_=>simp
theorem jbJ {a b c d:Pn} (hl:a.2=b.2) (hab:a.1≠b.1) (hcd:c≠d) (hn:¬((a=c∧b=d)∨(a=d∧b=c))) (h:xZ a b c d=true) :
  ¬(Kd (2*c.1) (2*c.2) (2*d.1) (2*d.2) (a.1+b.1) (a.2+b.2) =0∧(min (2*c.1) (2*d.1)≤a.1+b.1∧a.1+b.1≤max (2*c.1) (2*d.1))∧min (2*c.2) (2*d.2)≤a.2+b.2∧a.2+b.2≤max (2*c.2) (2*d.2)) :=by
 rintro⟨ht,hx,hy⟩
 have hap:WA a b c d=false:=by
  rw [WA]
  simp only [Bool.or_eq_false_iff,decide_eq_false_iff_not]
  omega
 have k3:Q1 a b c d≠3:=fun k=>by
  unfold xZ at h
  rw [hap,k] at h
  simp [hn] at h
 have k2:Q1 a b c d≠2:=fun k=>by
  unfold xZ at h
  rw [hap,k] at h
  simp at h
 have k1:Q1 a b c d=1→a=c∨a=d∨b=c∨b=d:=fun k=>by
  unfold xZ at h
  rw [hap,k] at h
  simp only [jfC,if_false,if_neg (show¬((1:Int) =2) by omega),if_true,jfq,jgj,decide_eq_false_iff_not,ne_eq,Decidable.not_not] at h
  rcases h with((h | h) | h) | h
  ·exact .inl h
  ·exact .inr (.inl h)
  ·exact .inr (.inr (.inl h))
  ·exact .inr (.inr (.inr h))
 obtain ⟨a1,a2⟩ :=a
 obtain ⟨b1,b2⟩ :=b
 obtain ⟨c1,c2⟩ :=c
 obtain ⟨d1,d2⟩ :=d
 simp only [Prod.mk.injEq,ne_eq,not_and] at*
 subst hl
 by_cases hlev:c2=d2
 ·
  subst hlev
  have hyy:c2=a2:=by omega
  subst hyy
  have hcd':c1≠d1:=fun e=>hcd e rfl
  have on1:∀x:Int,(min a1 b1≤x∧x≤max a1 b1)→(min c1 d1≤x∧x≤max c1 d1)→KC (a1,c2) (b1,c2) (c1,c2) (d1,c2) (x,c2) =true:=fun x h1 h2=>by
   rw [KC,jeF,Kf,Kf]
   simp only [tn,Kd]
   refine⟨⟨by simp,h1,by omega⟩,by simp,h2,by omega⟩
  have mem1:∀x:Int,(x=a1∨x=b1∨x=c1∨x=d1)→(min a1 b1≤x∧x≤max a1 b1)→(min c1 d1≤x∧x≤max c1 d1)→(x,c2)∈Q0 (a1,c2) (b1,c2) (c1,c2) (d1,c2) :=fun x h0 h1 h2=>
   Q9.2 ⟨by rcases h0 with rfl | rfl | rfl | rfl<;>simp,on1 x h1 h2⟩
  refine k3 (XT (q:= (max (min a1 b1) (min c1 d1),c2)) (r:= (min (max a1 b1) (max c1 d1),c2)) (mem1 _ (by omega) (by omega) (by omega)) (mem1 _ (by omega) (by omega) (by omega)) fun e=> ?_)
  simp only [Prod.mk.injEq] at e
  omega
 ·by_cases hc:c2=a2
  ·
   have e1:Kd (2*c1) (2*c2) (2*d1) (2*d2) (a1+b1) (a2+a2) = -2* ((d2- c2) * (a1+b1- 2*c1)) :=by subst hc;simp only [Kd];grind
   have e2: (d2- c2) * (a1+b1- 2*c1) =0:=by omega
   have e3:a1+b1=2*c1:=by rcases IU e2 with k | k<;>omega
   subst hc
   have m: (c1,c2)∈Q0 (a1,c2) (b1,c2) (c1,c2) (d1,d2) :=Q9.2 ⟨by simp,by
    rw [KC,jeF,Kf,Kf]
    simp only [tn,Kd]
    refine⟨⟨by simp,by omega,by omega⟩,by simp,by omega,by omega⟩⟩
   rcases Zv m with k | k
   ·exact absurd (k1 k) (by omega)
   ·exact k3 k
  ·by_cases hd:d2=a2
   ·have e1:Kd (2*c1) (2*c2) (2*d1) (2*d2) (a1+b1) (a2+a2) =2* ((d2- c2) * (2*d1- (a1+b1))) :=by subst hd;simp only [Kd];grind
    have e2: (d2- c2) * (2*d1- (a1+b1)) =0:=by omega
    have e3:a1+b1=2*d1:=by rcases IU e2 with k | k<;>omega
    subst hd
    have m: (d1,d2)∈Q0 (a1,d2) (b1,d2) (c1,c2) (d1,d2) :=Q9.2 ⟨by simp,by
     rw [KC,jeF,Kf,Kf]
     simp only [tn,Kd]
     refine⟨⟨by simp,by omega,by omega⟩,by grind,by omega,by omega⟩⟩
    rcases Zv m with k | k
    ·exact absurd (k1 k) (by omega)
    ·exact k3 k
   ·
    by_cases he: (Q0 (a1,a2) (b1,a2) (c1,c2) (d1,d2)).length=0
    ·have hs:qM (a1,a2) (b1,a2) (c1,c2) (d1,d2) =true:=by
      rw [KX]
      have s1:=zE (a:=b1- a1) (b:=c2- a2) (p:=tn (a1,a2) (b1,a2) (c1,c2)) (by simp only [tn,Kd];grind)
      have s2:=zE (a:=b1- a1) (b:=d2- a2) (p:=tn (a1,a2) (b1,a2) (d1,d2)) (by simp only [tn,Kd];grind)
      have s3:=zE (a:=d2- c2) (b:=b1- a1) (p:=tn (c1,c2) (d1,d2) (a1,a2) - tn (c1,c2) (d1,d2) (b1,a2)) (by simp only [tn,Kd];grind)
      have s4:2* (tn (c1,c2) (d1,d2) (a1,a2) +tn (c1,c2) (d1,d2) (b1,a2)) =0:=by rw [←ht];simp only [tn,Kd];grind
      clear k1 k2 k3 h hap ht he hn hcd
      generalize tn (a1,a2) (b1,a2) (c1,c2) =T1 at*
      generalize tn (a1,a2) (b1,a2) (d1,d2) =T2 at*
      generalize tn (c1,c2) (d1,d2) (a1,a2) =T3 at*
      generalize tn (c1,c2) (d1,d2) (b1,a2) =T4 at*
      rcases Int.lt_or_gt_of_ne hab with g | g<;>rcases(show c2<a2∧a2<d2∨d2<a2∧a2<c2 by omega) with g' | g'
      ·have t1:T1<0:=by omega
       have t2:0<T2:=by omega
       exact⟨.inl ⟨t1,t2⟩,by omega⟩
      ·have t1:0<T1:=by omega
       have t2:T2<0:=by omega
       exact⟨.inr ⟨t1,t2⟩,by omega⟩
      ·have t1:0<T1:=by omega
       have t2:T2<0:=by omega
       exact⟨.inr ⟨t1,t2⟩,by omega⟩
      ·have t1:T1<0:=by omega
       have t2:0<T2:=by omega
       exact⟨.inl ⟨t1,t2⟩,by omega⟩
     refine k2 ?_
     unfold Q1
     rw [if_pos he,if_pos hs]
    ·have:∃q,q∈Q0 (a1,a2) (b1,a2) (c1,c2) (d1,d2) :=by
      cases hh:Q0 (a1,a2) (b1,a2) (c1,c2) (d1,d2) with
      | nil=>rw [hh] at he;exact absurd rfl he
      | cons x l=>exact⟨x,by simp⟩
     obtain ⟨q,hq⟩ :=this
     rcases Zv hq with k | k
     ·exact absurd (k1 k) (by omega)
     ·exact k3 k
theorem Bt (f:Int→Int→Int) {xs:List (Int×Int)} :∀k,k≤xs.length→sm (fun e:Leg=>f e.ax e.ay- f e.bx e.b_y) (qG xs k) =f (px xs 0) (py xs 0) - f (px xs (k % xs.length)) (py xs (k % xs.length))
 | 0,_=>by simp [qG,sm]
 | k+1,h=>by
  have ih:=Bt f (xs:=xs) k (by omega)
  rw [jfY (show k<xs.length by omega)] at ih
  rw [Ke]
  split
  ·rename_i he
   rw [ih]
   unfold nx at he
   rw [he.1,he.2]
  ·rw [U1,ih]
   simp only [sm,nx]
   omega
theorem E5 (f:Int→Int→Int) (xs:List (Int×Int)) :sm (fun e:Leg=>f e.ax e.ay- f e.bx e.b_y) (J0 xs) =0:=by
 rw [J0,Bt f _ (jeD _),Nat.mod_self]
 omega
theorem TV (f:Int→Int→Int) (rs:List jS) :∀k,sm (fun e:Leg=>f e.ax e.ay- f e.bx e.b_y) (Qg rs k) =0
 | 0=>rfl
 | k+1=>by
  rw [Qg,U1,TV f rs k,E5]
  rfl
structure Fine (es:List Leg) :Prop where
 ok:∀e∈es,qO e
 ne:∀e∈es,lA e≠lB e
 close:∀f:Int→Int→Int,sm (fun e:Leg=>f e.ax e.ay- f e.bx e.b_y) es=0
def Fs (es:List Leg) (p:Leg) :Prop:=p.ay=p.b_y→∀e∈es,Kz e≠p→¬(Kd (2*e.ax) (2*e.ay) (2*e.bx) (2*e.b_y) (wP p) (w8 p) =0∧(min (2*e.ax) (2*e.bx)≤wP p∧wP p≤max (2*e.ax) (2*e.bx))∧min (2*e.ay) (2*e.b_y)≤w8 p∧w8 p≤max (2*e.ay) (2*e.b_y))
def DU (es:List Leg) (p:Leg) :Int:=sm (fun e=>sg e* (if Kz e=p then 0 else M9 p (Kz e))) es
theorem jaj {es:List Leg} {p:Leg} (hf:Fine es) (hc:Fs es p) (hp:¬wq (lB p) (lA p)) (hne:lA p≠lB p) :
  ZY es p=⟨p,xD es p,DU es p+xD es p,DU es p⟩ :=by
 have d0:DU es p=sm (fun e=>if Kz e=p then 0 else(if p.ay=p.b_y then Ko (zQ (vt true e)) (-(w8 p)) (wP p) else Ko (vt true e) (wP p) (w8 p))) es:=by
  refine U2 fun e _=> ?_
  split
  ·simp
  ·unfold M9
   split
   ·exact jb8 _ _ _
   ·exact jbo _ _ _
 unfold ZY
 by_cases hl:p.ay=p.b_y
 ·rw [if_pos hl]
  simp only [if_pos hl] at d0
  have hlt:p.ax<p.bx:=by
   unfold wq lA lB at hp
   unfold lA lB at hne
   simp only [ne_eq,Prod.mk.injEq,not_and] at hp hne
   omega
  have key:Oz es p- DU es p=xD es p:=by
   rw [d0]
   unfold Oz
   rw [←jaA]
   have e1:sm (fun e:Leg=> (if Kz e=p then 0 else Ko (vt true e) (wP p) (w8 p)) - (if Kz e=p then 0 else Ko (zQ (vt true e)) (-(w8 p)) (wP p))) es
     =sm (fun e:Leg=> (qu (2*e.ax) (2*e.ay) (wP p) (w8 p) - qu (2*e.bx) (2*e.b_y) (wP p) (w8 p)) + (if Kz e=p then sg e else 0)) es:=by
    refine U2 fun e he=> ?_
    split
    ·rename_i hn
     have hq1:qu (2*p.ax) (2*p.ay) (wP p) (w8 p) =0:=by unfold qu wP;rw [if_neg (by omega)]
     have hq2:qu (2*p.bx) (2*p.b_y) (wP p) (w8 p) =1:=by unfold qu wP w8;rw [if_pos (by omega)]
     rcases(HV hp hne).1 hn with rfl | rfl
     ·rw [Nc hp,hq1,hq2];rfl
     ·rw [jat hp hne]
      simp only [vO]
      rw [hq1,hq2];rfl
    ·rename_i hn
     have:=jaL (e:=vt true e) (hc hl e he hn)
     simp only [vt,if_true] at this⊢
     rw [this]
     omega
   rw [e1,jax,hf.close fun x y=>qu (2*x) (2*y) (wP p) (w8 p)]
   unfold xD
   omega
  rw [show Oz es p=DU es p+xD es p by omega,show DU es p+xD es p- xD es p=DU es p by omega]
 ·rw [if_neg hl]
  simp only [if_neg hl] at d0
  have:DU es p=Oz es p:=d0
  rw [this]
theorem DL {e:Leg} (hne:lA e≠lB e) :Kz (vO e) =Kz e:=by
 unfold Kz
 rcases Uc (lA e) (lB e) with h | h | h
 ·rw [if_pos (show wq (lB (vO e)) (lA (vO e)) from h),if_neg fun k=>Q7 _ (vP h k)]
  rfl
 ·exact absurd h hne
 ·rw [if_pos h,if_neg (show¬wq (lB (vO e)) (lA (vO e)) from fun k=>Q7 _ (vP (show wq (lA e) (lB e) from k) h))]
theorem jbI (e:Leg) :wP (Kz e) =e.ax+e.bx∧w8 (Kz e) =e.ay+e.b_y∧((Kz e).ay= (Kz e).b_y↔e.ay=e.b_y) :=by
 unfold Kz wP w8
 split
 ·simp only [vO];omega
 ·exact⟨rfl,rfl,Iff.rfl⟩
theorem jdr {e:Leg} (hne:lA e≠lB e) :lA (Kz e)≠lB (Kz e) :=by
 unfold Kz
 split
 ·exact fun h=>hne h.symm
 ·exact hne
theorem Bd {es:List Leg} {e:Leg} (h:e∈es) :∃i,i<es.length∧lg es i=e:=by
 obtain ⟨i,hi,rfl⟩ :=jfm h
 exact⟨i,hi,(yf hi).symm⟩
theorem EO {es m:List Leg} {l:List Nt} (hl:l=qW false es []) (hr:NG m) (hm:∀q,q∈m↔∃e∈es,q=Kz e) :l.map (·.e) =QA m:=by
 have ha:XB l:=by rw [hl];exact Ww List.Pairwise.nil
 refine Lm (List.pairwise_map.2 ha) (OT hr) fun q=> ?_
 rw [zo,hm,je7,hl]
 rw [show(∃a∈qW false es [],a.e=q)↔_ from Wz]
 simp
end Go.Proofs.YtkagkgjjfdkoaaaGreat
