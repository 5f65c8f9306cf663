import Derived.Test.YtbahojdbmmjkcaaGreatPCross
import Derived.Test.YtbahojdbmmjkcaaGreatPLegSort
set_option linter.unusedVariables false
set_option linter.unusedSimpArgs false
namespace Go.Proofs.YtbahojdbmmjkcaaGreat
open Go Go.RowKit
variable {e:Leg} {es:List Leg}
theorem ZJ {a b c d q:Pn} (h:q∈Q3 a b c d) :Q4 a b c d=1∨Q4 a b c d=3:=by
 unfold Q4
 have: (Q3 a b c d).length≠0:=fun e=>by
  have:=jgX e
  rw [this] at h
  cases h
 rw [if_neg this]
 split<;>simp
theorem XW {a b c d q r:Pn} (h:q∈Q3 a b c d) (h':r∈Q3 a b c d) (hne:q≠r) :Q4 a b c d=3:=by
 unfold Q4
 match hl:Q3 a b c d,h,h' with
 | [x],h,h'=>exact absurd ((jgC.1 h).trans (jgC.1 h').symm) hne
 | x::y::l,_,_=>simp
theorem jdh {a b c d:Pn} (hl:a.2=b.2) (hab:a.1≠b.1) (hcd:c≠d) (hn:¬((a=c∧b=d)∨(a=d∧b=c))) (h:Xb a b c d=true) :
  ¬(Kc (2*c.1) (2*c.2) (2*d.1) (2*d.2) (a.1+b.1) (a.2+b.2) =0∧(min (2*c.1) (2*d.1)≤a.1+b.1∧a.1+b.1≤max (2*c.1) (2*d.1))∧min (2*c.2) (2*d.2)≤a.2+b.2∧a.2+b.2≤max (2*c.2) (2*d.2)) :=by
 rintro⟨ht,hx,hy⟩
 have hap:Wt a b c d=false:=by
  rw [Wt]
  simp only [Bool.or_eq_false_iff,decide_eq_false_iff_not]
  omega
 have k3:Q4 a b c d≠3:=fun k=>by
  unfold Xb at h
  rw [hap,k] at h
  simp [hn] at h
 have k2:Q4 a b c d≠2:=fun k=>by
  unfold Xb at h
  rw [hap,k] at h
  simp at h
 have k1:Q4 a b c d=1→a=c∨a=d∨b=c∨b=d:=fun k=>by
  unfold Xb at h
  rw [hap,k] at h
  simp only [jhr,if_false,if_neg (show¬((1:Int) =2) by omega),if_true,jhe,jh5,decide_eq_false_iff_not,ne_eq,Decidable.not_not] at h
  rcases h with((h | h) | h) | h
  ·exact .inl h
  ·exact .inr (.inl h)
  ·exact .inr (.inr (.inl h))
  ·exact .inr (.inr (.inr h))
 obtain ⟨a1,a2⟩ :=a
 obtain ⟨b1,b2⟩ :=b
 obtain ⟨c1,c2⟩ :=c
 obtain ⟨d1,d2⟩ :=d
 simp only [Prod.mk.injEq,ne_eq,not_and] at*
 subst hl
 by_cases hlev:c2=d2
 ·
  subst hlev
  have hyy:c2=a2:=by omega
  subst hyy
  have hcd':c1≠d1:=fun e=>hcd e rfl
  have on1:∀x:Int,(min a1 b1≤x∧x≤max a1 b1)→(min c1 d1≤x∧x≤max c1 d1)→Kz (a1,c2) (b1,c2) (c1,c2) (d1,c2) (x,c2) =true:=fun x h1 h2=>by
   rw [Kz,jgy,Kf,Kf]
   simp only [tn,Kc]
   refine⟨⟨by simp,h1,by omega⟩,by simp,h2,by omega⟩
  have mem1:∀x:Int,(x=a1∨x=b1∨x=c1∨x=d1)→(min a1 b1≤x∧x≤max a1 b1)→(min c1 d1≤x∧x≤max c1 d1)→(x,c2)∈Q3 (a1,c2) (b1,c2) (c1,c2) (d1,c2) :=fun x h0 h1 h2=>
   Q9.2 ⟨by rcases h0 with rfl | rfl | rfl | rfl<;>simp,on1 x h1 h2⟩
  refine k3 (XW (q:= (max (min a1 b1) (min c1 d1),c2)) (r:= (min (max a1 b1) (max c1 d1),c2)) (mem1 _ Om Om Om) (mem1 _ Om Om Om) fun e=> ?_)
  simp only [Prod.mk.injEq] at e
  omega
 ·by_cases hc:c2=a2
  ·
   have e1:Kc (2*c1) (2*c2) (2*d1) (2*d2) (a1+b1) (a2+a2) = -2* ((d2- c2) * (a1+b1- 2*c1)) :=by subst hc;simp only [Kc];grind
   have e2: (d2- c2) * (a1+b1- 2*c1) =0:=by omega
   have e3:a1+b1=2*c1:=by rcases RF e2 with k | k<;>omega
   subst hc
   have m: (c1,c2)∈Q3 (a1,c2) (b1,c2) (c1,c2) (d1,d2) :=Q9.2 ⟨by simp,by
    rw [Kz,jgy,Kf,Kf]
    simp only [tn,Kc]
    refine⟨⟨by simp,by omega,by omega⟩,by simp,by omega,by omega⟩⟩
   rcases ZJ m with k | k
   ·exact absurd (k1 k) Om
   ·exact k3 k
  ·by_cases hd:d2=a2
   ·have e1:Kc (2*c1) (2*c2) (2*d1) (2*d2) (a1+b1) (a2+a2) =2* ((d2- c2) * (2*d1- (a1+b1))) :=by subst hd;simp only [Kc];grind
    have e2: (d2- c2) * (2*d1- (a1+b1)) =0:=by omega
    have e3:a1+b1=2*d1:=by rcases RF e2 with k | k<;>omega
    subst hd
    have m: (d1,d2)∈Q3 (a1,d2) (b1,d2) (c1,c2) (d1,d2) :=Q9.2 ⟨by simp,by
     rw [Kz,jgy,Kf,Kf]
     simp only [tn,Kc]
     refine⟨⟨by simp,by omega,by omega⟩,by grind,by omega,by omega⟩⟩
    rcases ZJ m with k | k
    ·exact absurd (k1 k) Om
    ·exact k3 k
   ·
    by_cases he: (Q3 (a1,a2) (b1,a2) (c1,c2) (d1,d2)).length=0
    ·have hs:qU (a1,a2) (b1,a2) (c1,c2) (d1,d2) =true:=by
      rw [KS]
      have s1:=zL (a:=b1- a1) (b:=c2- a2) (p:=tn (a1,a2) (b1,a2) (c1,c2)) (by simp only [tn,Kc];grind)
      have s2:=zL (a:=b1- a1) (b:=d2- a2) (p:=tn (a1,a2) (b1,a2) (d1,d2)) (by simp only [tn,Kc];grind)
      have s3:=zL (a:=d2- c2) (b:=b1- a1) (p:=tn (c1,c2) (d1,d2) (a1,a2) - tn (c1,c2) (d1,d2) (b1,a2)) (by simp only [tn,Kc];grind)
      have s4:2* (tn (c1,c2) (d1,d2) (a1,a2) +tn (c1,c2) (d1,d2) (b1,a2)) =0:=by rw [←ht];simp only [tn,Kc];grind
      clear k1 k2 k3 h hap ht he hn hcd
      generalize tn (a1,a2) (b1,a2) (c1,c2) =T1 at*
      generalize tn (a1,a2) (b1,a2) (d1,d2) =T2 at*
      generalize tn (c1,c2) (d1,d2) (a1,a2) =T3 at*
      generalize tn (c1,c2) (d1,d2) (b1,a2) =T4 at*
      rcases Int.lt_or_gt_of_ne hab with g | g<;>rcases(show c2<a2∧a2<d2∨d2<a2∧a2<c2 by omega) with g' | g'
      ·have t1:T1<0:=by omega
       have t2:0<T2:=by omega
       exact⟨.inl ⟨t1,t2⟩,by omega⟩
      ·have t1:0<T1:=by omega
       have t2:T2<0:=by omega
       exact⟨.inr ⟨t1,t2⟩,by omega⟩
      ·have t1:0<T1:=by omega
       have t2:T2<0:=by omega
       exact⟨.inr ⟨t1,t2⟩,by omega⟩
      ·have t1:T1<0:=by omega
       have t2:0<T2:=by omega
       exact⟨.inl ⟨t1,t2⟩,by omega⟩
     refine k2 ?_
     unfold Q4
     rw [if_pos he,if_pos hs]
    ·have:∃q,q∈Q3 (a1,a2) (b1,a2) (c1,c2) (d1,d2) :=by
      cases hh:Q3 (a1,a2) (b1,a2) (c1,c2) (d1,d2) with
      | nil=>rw [hh] at he;exact absurd rfl he
      | cons x l=>exact⟨x,by simp⟩
     obtain ⟨q,hq⟩ :=this
     rcases ZJ hq with k | k
     ·exact absurd (k1 k) Om
     ·exact k3 k
theorem BX (f:Int→Int→Int) {xs:List (Int×Int)} :∀k,k≤xs.length→sm (fun e:Leg=>f e.ax e.ay- f e.bx e.b_y) (qI xs k) =f (px xs 0) (py xs 0) - f (px xs (k % xs.length)) (py xs (k % xs.length))
 | 0,_=>by simp [qI,sm]
 | k+1,h=>by
  have ih:=BX f (xs:=xs) k Om
  rw [jhM (show k<xs.length by omega)] at ih
  rw [Kd]
  split
  ·rename_i he
   rw [ih]
   unfold nx at he
   rw [he.1,he.2]
  ·rw [yf,ih]
   simp only [sm,nx]
   omega
theorem jbw (f:Int→Int→Int) (xs:List (Int×Int)) :sm (fun e:Leg=>f e.ax e.ay- f e.bx e.b_y) (Jy xs) =0:=by
 rw [Jy,BX f _ (jgx _),Nat.mod_self]
 omega
theorem NZ (f:Int→Int→Int) (rs:List jK) :∀k,sm (fun e:Leg=>f e.ax e.ay- f e.bx e.b_y) (qW rs k) =0
 | 0=>rfl
 | k+1=>by
  rw [qW,yf,NZ f rs k,jbw]
  rfl
structure Fine (es:List Leg) :Prop where
 ok:∀e∈es,qr e
 ne:∀e∈es,lA e≠lB e
 close:∀f:Int→Int→Int,sm (fun e:Leg=>f e.ax e.ay- f e.bx e.b_y) es=0
def Ic (es:List Leg) (p:Leg) :Prop:=p.ay=p.b_y→∀e∈es,Ky e≠p→¬(Kc (2*e.ax) (2*e.ay) (2*e.bx) (2*e.b_y) (wC p) (wN p) =0∧(min (2*e.ax) (2*e.bx)≤wC p∧wC p≤max (2*e.ax) (2*e.bx))∧min (2*e.ay) (2*e.b_y)≤wN p∧wN p≤max (2*e.ay) (2*e.b_y))
def FE (es:List Leg) (p:Leg) :Int:=sm (fun e=>sg e* (if Ky e=p then 0 else Oy p (Ky e))) es
theorem jbM {p:Leg} (hf:Fine es) (hc:Ic es p) (hp:¬wc (lB p) (lA p)) (hne:lA p≠lB p) :
  Z8 es p=⟨p,xK es p,FE es p+xK es p,FE es p⟩ :=by
 have d0:FE es p=sm (fun e=>if Ky e=p then 0 else(if p.ay=p.b_y then kE (z6 (Qe true e)) (-(wN p)) (wC p) else kE (Qe true e) (wC p) (wN p))) es:=by
  refine yg fun e _=> ?_
  split
  ·simp
  ·unfold Oy
   split
   ·exact jdN _ _ _
   ·exact jcV _ _ _
 unfold Z8
 by_cases hl:p.ay=p.b_y
 ·rw [if_pos hl]
  simp only [if_pos hl] at d0
  have hlt:p.ax<p.bx:=by
   unfold wc lA lB at hp
   unfold lA lB at hne
   simp only [ne_eq,Prod.mk.injEq,not_and] at hp hne
   omega
  have key:OU es p- FE es p=xK es p:=by
   rw [d0]
   unfold OU
   rw [←jb3]
   have e1:sm (fun e:Leg=> (if Ky e=p then 0 else kE (Qe true e) (wC p) (wN p)) - (if Ky e=p then 0 else kE (z6 (Qe true e)) (-(wN p)) (wC p))) es
     =sm (fun e:Leg=> (qu (2*e.ax) (2*e.ay) (wC p) (wN p) - qu (2*e.bx) (2*e.b_y) (wC p) (wN p)) + (if Ky e=p then sg e else 0)) es:=by
    refine yg fun e he=> ?_
    split
    ·rename_i hn
     have hq1:qu (2*p.ax) (2*p.ay) (wC p) (wN p) =0:=by unfold qu wC;rw [if_neg Om]
     have hq2:qu (2*p.bx) (2*p.b_y) (wC p) (wN p) =1:=by unfold qu wC wN;rw [if_pos Om]
     rcases(H6 hp hne).1 hn with rfl | rfl
     ·rw [Pv hp,hq1,hq2];rfl
     ·rw [jbX hp hne]
      simp only [vD]
      rw [hq1,hq2];rfl
    ·rename_i hn
     have:=jcf (e:=Qe true e) (hc hl e he hn)
     simp only [Qe,if_true] at this⊢
     rw [this]
     omega
   rw [e1,jb0,hf.close fun x y=>qu (2*x) (2*y) (wC p) (wN p)]
   unfold xK
   omega
  rw [show OU es p=FE es p+xK es p by omega,show FE es p+xK es p- xK es p=FE es p by omega]
 ·rw [if_neg hl]
  simp only [if_neg hl] at d0
  have:FE es p=OU es p:=d0
  rw [this]
theorem Fp (hne:lA e≠lB e) :Ky (vD e) =Ky e:=by
 unfold Ky
 rcases Ui (lA e) (lB e) with h | h | h
 ·rw [if_pos (show wc (lB (vD e)) (lA (vD e)) from h),if_neg fun k=>Q7 _ (vF h k)]
  rfl
 ·exact absurd h hne
 ·rw [if_pos h,if_neg (show¬wc (lB (vD e)) (lA (vD e)) from fun k=>Q7 _ (vF (show wc (lA e) (lB e) from k) h))]
theorem jdg (e:Leg) :wC (Ky e) =e.ax+e.bx∧wN (Ky e) =e.ay+e.b_y∧((Ky e).ay= (Ky e).b_y↔e.ay=e.b_y) :=by
 unfold Ky wC wN
 split
 ·simp only [vD];omega
 ·exact⟨rfl,rfl,Iff.rfl⟩
theorem jfd (hne:lA e≠lB e) :lA (Ky e)≠lB (Ky e) :=by
 unfold Ky
 split
 ·exact fun h=>hne h.symm
 ·exact hne
theorem BF (h:e∈es) :∃i,i<es.length∧lg es i=e:=by
 obtain ⟨i,hi,rfl⟩ :=jg1 h
 exact⟨i,hi,(VG hi).symm⟩
theorem jbd {m:List Leg} {l:List Nt} (hl:l=q8 false es []) (hr:PW m) (hm:∀q,q∈m↔∃e∈es,q=Ky e) :l.map (·.e) =QB m:=by
 have ha:XE l:=by rw [hl];exact Wp List.Pairwise.nil
 refine LB (List.pairwise_map.2 ha) (Bh hr) fun q=> ?_
 rw [zw,hm,jgO,hl]
 rw [show(∃a∈q8 false es [],a.e=q)↔_ from Ws]
 simp
end Go.Proofs.YtbahojdbmmjkcaaGreat
namespace Go.Proofs.YtbahojdbmmjkcaaGreat
open Go Go.RowKit
variable {es ls:List Leg} {k:Nat} {l p:Leg} {w:World} {x:Option Addr×Nat}
set_option maxRecDepth 100000
set_option maxHeartbeats 4000000
theorem IL (p q:Pn) :0<VN p q↔wc q p:=by
 have h1:=W9 (p.1- q.1)
 have h2:=W9 (p.2- q.2)
 unfold VN wc
 split<;>omega
theorem IM (p q:Pn) (hp:zQ p) (hq:zQ q) (W:World) :Calls Tryz.prog 112 #[pV p,pV q] W fun e w'=>e= .returned (.int .i64 (VN p q))∧Over W w':=
 (Uh p q hp hq W).mono fun e w' ⟨h,q',os',hw⟩ =>⟨h,Xa hw⟩
def OQ (ls:List Leg) (k:Nat) :List Leg:= (ls.take k).map Ky
theorem BP (h:k<ls.length) :OQ ls (k+1) =OQ ls k++ [Ky (lg ls k)] :=by
 rw [OQ,jgE h,VG h]
 simp [OQ]
theorem jbh (h:k≤ls.length) : (OQ ls k).length=k:=by
 rw [OQ,jgF,jgJ]
 omega
theorem jds (h:0<VN (lA l) (lB l)) :Ky l=⟨l.bx,l.b_y,l.ax,l.ay⟩ :=by rw [Ky,if_pos ((IL _ _).1 h)];rfl
theorem jfe (h:VN (lA l) (lB l)≤0) :Ky l=l:=by rw [Ky,if_neg fun k=>by have:= (IL _ _).2 k;omega]
def VF (es:List Leg) :List Leg:= (q8 false es []).map (·.e)
theorem jaF {m:List Leg} (hp:m.Perm (es.map Ky)) (hr:PW m) :QB m=VF es:=
 (jbd rfl hr fun q=>by rw [hp.mem_iff,jgO];constructor<;> (rintro⟨e,h1,h2⟩;exact⟨e,h1,h2.symm⟩)).symm
theorem C6 {B g c n:Nat} {xs:List Leg} (h: (JQ B 96 4 n (xs.flatMap jU) (some ⟨g,0,none⟩,c)).P w) (hl:xs.length=n) (hx:∀p∈xs,qr p) (hn:n≤1048576) (h0:0<n) :
  Calls Tryz.prog 182 #[.slice (some ⟨g,0,none⟩) n c, .func (.func 183) #[] #[]] w fun e w'=>∃x: {ys:List Leg//ys.Perm xs∧PW ys},e= .returned (.tuple #[])∧Wrs (JQ B 96 4 n (xs.flatMap jU) (some ⟨g,0,none⟩,c)).F w w'∧(JQ 0 96 4 n (x.1.flatMap jU) (some ⟨g,0,none⟩,c)).P w'∧(∀b,(JQ 0 96 4 n (x.1.flatMap jU) (some ⟨g,0,none⟩,c)).F b→(JQ B 96 4 n (xs.flatMap jU) (some ⟨g,0,none⟩,c)).F b∨w.heap.size≤b)∧(JQ 0 96 4 n (x.1.flatMap jU) (some ⟨g,0,none⟩,c)).B=0:=by
 refine(C7 h hl hx hn h0).mono ?_
 rintro e w' ⟨rfl,ys,hp,hr,hw,ho⟩
 exact⟨⟨ys,hp,hr⟩,rfl,hw.mono fun b hb=>by subst hb;rfl,ho,fun b hb=> .inl hb,rfl⟩
theorem jdq (hok:∀l∈ls,qr l) (k:Nat) :∀l∈OQ ls k,qr l:=fun l hl=>by
 obtain ⟨e,he,rfl⟩ :=jgO.1 hl
 exact jbi (hok e (jg7 he))
theorem RR (A:Option Addr) (n c:Nat) (ls:List Leg) (w:World) (h:Legs w A n ls) (hok:∀l∈ls,qr l) (hn:n≤1048576) (h0:0<n) :
  Calls Tryz.prog 121 #[.slice A n c] w fun e w'=>∃v,e= .returned v∧w'.ownsRow w.heap.size 96 4 v (VF ls).length ((VF ls).flatMap jU)∧Over w w':=by
 have hl:=h.1
 refine jT (m:=33) (Tryz.func121) J J (lb J) ?_;refine S7 ?_;refine kh (T:=96) (s:=4) ?_;refine N9 ?_;refine JN (X:=Nat×Option Addr×Nat) (fun x=>x.1≤n) (fun x=>n- x.1) (fun x=> [(3, .slice x.2.1 x.1 x.2.2),(8, .int .i64 (x.1:Int))]) (kK [2,6,7]) (fun x=> [JQ (Bs.N ⟨w,[]⟩) 96 4 x.1 ((OQ ls x.1).flatMap jU) x.2]) (0,none,0) (jgw _) ⟨J,sz⟩ (fun _ h=>h) ?_
 intro⟨k,rA,rc⟩ hk L hL1
 refine v9 ?_;refine r9 ?_
 have hk:k≤n:=hk
 refine S5 ?_;refine cZ (fun c1=> ?_) (fun c1=> ?_)
 ·have hlt:k<n:=Om
  obtain ⟨eb,eo,rfl,_⟩ :=h.2 Om
  have hb1:=xd (QK hok (show k<ls.length by omega))
  refine S7 ?_;refine a9 (jk J J qm J (uV (fun w' hs=>h.over hs.fin) hlt)) ?_;refine S1 ?_;refine aL (fun b1=> ?_);refine N10 ?_;refine a9 (jJ wQ J J (fun w1 hs=>IM (lA (lg ls k)) (lB (lg ls k)) hb1.1 hb1.2 w1)) ?_;refine S2 ?_;refine cZ (fun c2=> ?_) (fun c2=> ?_)
  ·refine S7 ?_;refine Ms (k:=1) J J J J (J) (by rfl) jH.szx J ?_;refine N2 ?_;refine Mt (k:=1) J J J J (J) (by rfl) jH.szx J ?_;refine N5 ?_;refine Jw J J (kZ J) J (lb J) (fun b2=> ?_);refine N1 ?_;refine JV (k:=0) J jV qd Dc J Dc J J J (fun w' hs=>qR hs (k:=2) J J) (by simp [Value.oneCell']) (by unfold maxLen;omega) Om (jgx _) (fun r1=> ?_);refine N8 ?_
   exact j4 hL1 ((k+1,r1)) ((show k+1≤n by omega)) (by simp only;omega) ⟨J,vi Om,sz⟩ (fun _ h=>h.upto ⟨by rw [BP Om,jds c2,jgG];rfl,trivial⟩)
  ·refine S6 ?_;refine Jw J J (kZ J) J (lb J) (fun b3=> ?_);refine N1 ?_;refine JV (k:=0) J jV qd Dc J Dc J J J (fun w' hs=>qR hs (k:=2) J J) (by simp [Value.oneCell']) (by unfold maxLen;omega) Om (jgx _) (fun r2=> ?_);refine N8 ?_
   exact j4 hL1 ((k+1,r2)) ((show k+1≤n by omega)) (by simp only;omega) ⟨J,vi Om,sz⟩ (fun _ h=>h.upto ⟨by rw [BP Om,jfe c2,jgG];rfl,trivial⟩)
 ·have hin:k=n:=by omega
  subst hin
  have hnl:=jbh (show k≤ls.length by omega)
  refine S6 ?_;refine Q1 (fun w hs=>KX (k:=0) J hs h0) ?_
  rintro⟨eg,rfl⟩
  refine S3 ?_;refine W2 (k:=0) (X:= {ys:List Leg//ys.Perm (OQ ls k)∧PW ys}) (v:=fun _=> .tuple #[]) (r':=fun x=>JQ 0 96 4 _ (x.1.flatMap jU) (some ⟨eg,0,none⟩,rc)) kw J J J Dc J (fun w1 hs=>C6 (hs.all 0 _ J).1 hnl (jdq hok k) hn h0) ?_
  rintro⟨ys,hperm,hris⟩
  refine N5 ?_;refine Va (k:=0) (r':=JQ 0 96 4 (QB ys).length ((QB ys).flatMap jU) (some ⟨eg,0,none⟩,rc)) kz J J J Dc J (fun w1 hs=>Du (hs.all 0 _ J).1 (hperm.length_eq.trans hnl) h0 Om) (fun _ h=>h) J ?_;refine N3 ?_;refine jL J (.tmp J) ?_
  intro w' hs
  have hr:=hs.all 0 _ rfl
  have he:=jaF (show ys.Perm (ls.map Ky) by rw [OQ,jgR Om] at hperm;exact hperm) hris
  exact⟨_,rfl,by rw [←he];exact KN hr.1 (fun b hb=> (hr.2.1 b hb).elim id (fun h=>by cases h)),hs.fin⟩
theorem RQ (A:Option Addr) (c:Nat) (w:World) :
  Calls Tryz.prog 121 #[.slice A 0 c] w fun e w'=>e= .returned (.slice none 0 0)∧Over w w':=by
 refine jT (m:=33) (Tryz.func121) J J (lb J) ?_;refine S16 ?_;refine J9 (X:=Unit) (fun u=>True) (fun u=>0) (fun u=> [(3, .slice none 0 0),(8, .int .i64 0)]) (kK [2,6,7]) () (trivial) ⟨J,sz⟩ ?_
 intro u hu L hL1
 refine V5 ?_;refine cZ (fun c1=> ?_) (fun c1=> ?_)
 ·omega
 ·refine S8 ?_;refine a9 (jJ kw J J (fun w h=>C4 w)) ?_;refine S4 ?_;refine a9 (jJ kz J J (fun w h=>Dt w)) ?_;refine S3 ?_;refine jL J (.tmp J) ?_
  intro w' hs
  exact⟨rfl,hs.fin⟩
theorem RP (A:Option Addr) (n c:Nat) (ls:List Leg) (w:World) (h:Legs w A n ls) (hok:∀l∈ls,qr l) (hn:n≤1048576) :
  Calls Tryz.prog 121 #[.slice A n c] w fun e w'=>∃v,e= .returned v∧w'.ownsRow w.heap.size 96 4 v (VF ls).length ((VF ls).flatMap jU)∧Over w w':=by
 by_cases h0:0<n
 ·exact RR A n c ls w h hok hn h0
 ·obtain rfl:n=0:=by omega
  have:ls= [] :=jgX h.1
  subst this
  refine(RQ A c w).mono ?_
  rintro e w' ⟨rfl,hb⟩
  exact⟨_,rfl,⟨rfl, .inl ⟨rfl,rfl⟩⟩,hb⟩
abbrev neV (x:Ne) :Value:= .agg #[.int .i64 x.e.ax, .int .i64 x.e.ay, .int .i64 x.e.bx, .int .i64 x.e.b_y, .int .i64 x.net, .int .i64 x.left, .int .i64 x.right]
def jdw (p e:Leg) :Bool:= !decide (Ky e=p)
def Gc (es:List Leg) (p:Leg) (k:Nat) :List Leg:= (es.take k).filter (jdw p)
def Fm (es:List Leg) (p:Leg) (k:Nat) :Int:=sm (fun e=>if Ky e=p then sg e else 0) (es.take k)
theorem jdn (h:k≤es.length) : -(k:Int)≤Fm es p k∧Fm es p k≤k:=by
 have:=jeu (f:=fun e=>if Ky e=p then sg e else 0) (l:=es.take k) fun e _=>by
  have:=R8 e
  split<;>omega
 rw [jgJ,jhu h] at this
 exact this
theorem Cx (h:k<es.length) :Fm es p (k+1) =Fm es p k+ (if Ky (lg es k) =p then sg (lg es k) else 0) :=by
 rw [Fm,Li _ h,VG h]
 rfl
theorem jbc (es:List Leg) (p:Leg) :Fm es p es.length=xK es p:=by rw [Fm,jhf];rfl
theorem CB (h:k<es.length) :Gc es p (k+1) =Gc es p k++ (if Ky (lg es k) =p then [] else [lg es k]) :=by
 rw [Gc,jgE h,jhX,VG h]
 congr 1
 by_cases e:Ky (lg es k) =p<;>simp [jdw,e]
theorem jbp (h:k≤es.length) : (Gc es p k).length≤k:=by
 have:=jhZ (jdw p) (es.take k)
 rw [jgJ,jhu h] at this
 exact this
theorem Gq {α:Type} (q:α→Bool) (f:α→Int) :∀l:List α,sm f (l.filter q) =sm (fun e=>if q e=true then f e else 0) l
 | [] =>rfl
 | a::l=>by
  rw [List.filter_cons]
  by_cases h:q a=true
  ·rw [if_pos h]
   simp only [sm,Gq q f l,if_pos h]
  ·rw [if_neg h]
   simp only [sm,Gq q f l,if_neg h]
   omega
theorem Dr (h:Bool) (ls:List Leg) (x y:Int) :∀k,k≤ls.length→kY h ls x y k=sm (fun e=>kE (Qe h e) x y) (ls.take k)
 | 0,_=>rfl
 | k+1,hk=>by rw [kY,Li _ Om,VG Om,Dr h ls x y k Om]
theorem jcu (es:List Leg) (p:Leg) :Xy true (Gc es p es.length) (wC p) (wN p) =OU es p:=by
 rw [Xy,Dr _ _ _ _ _ (jgx _),jhf,Gc,jhf,Gq]
 refine yg fun e _=> ?_
 by_cases k:Ky e=p<;>simp [jdw,k]
theorem jed (h:Bool) (ls:List Leg) (x y:Int) : -(ls.length:Int)≤Xy h ls x y∧Xy h ls x y≤ls.length:=zO h ls x y _
theorem yb {B T n:Nat} (h: (JQ B T 4 n (ls.flatMap jU) x).P w) (hn:ls.length=n) :Legs w x.1 n ls:=by
 obtain ⟨A,c,e,h1,_⟩ :=YY h hn
 injection e with e1 e2 e3
 rw [e1]
 exact h1
theorem IY {e f:Leg} : (e.ax==f.ax&&e.ay==f.ay&&e.bx==f.bx&&e.b_y==f.b_y) =decide (e=f) :=by
 rw [xz]
 exact decide_eq_decide.2 ⟨Eq.symm,Eq.symm⟩
theorem GW (A:Option Addr) (n c:Nat) (es:List Leg) (p:Leg) (w:World) (h:Legs w A n es) (hok:∀l∈es,qr l) (hn:n≤1048576) (hp:qr p) (hne:lA p≠lB p) (hord:¬wc (lB p) (lA p)) :
  Calls Tryz.prog 122 #[.slice A n c,jgg p] w fun e w'=>e= .returned (neV (Z8 es p))∧Over w w':=by
 have hl:=h.1
 have hb: ((-262144≤p.ax∧p.ax≤262144)∧-262144≤p.ay∧p.ay≤262144)∧(-262144≤p.bx∧p.bx≤262144)∧-262144≤p.b_y∧p.b_y≤262144:=⟨⟨hp.1,hp.2.1⟩,hp.2.2.1,hp.2.2.2⟩
 refine jT (m:=84) (Tryz.func122) J J (lb J) ?_;refine S3 ?_;refine aX (fun b1=> ?_);refine N1 ?_;refine aL (fun b2=> ?_);refine N7 ?_;refine a9 (J0 J J (YD J J)) ?_;refine S1 ?_;refine aL (fun b3=> ?_);refine N6 ?_;refine kh (T:=96) (s:=4) ?_;refine N9 ?_;refine JN (X:=Nat×Option Addr×Nat) (fun x=>x.1≤n) (fun x=>n- x.1) (fun x=> [(6, .slice x.2.1 (Gc es p x.1).length x.2.2),(17, .int .i64 (x.1:Int))]) (kK [3,4,5,15,16]) (fun x=> [.cel b1 96 [.int .i64 p.ax, .int .i64 p.ay, .int .i64 p.bx, .int .i64 p.b_y], .cel b2 171 [.int .i64 0, .int .i64 0, .int .i64 0, .int .i64 0, .int .i64 0, .int .i64 0, .int .i64 0], .cel b3 171 [.int .i64 p.ax, .int .i64 p.ay, .int .i64 p.bx, .int .i64 p.b_y, .int .i64 (Fm es p x.1), .int .i64 0, .int .i64 0],JQ (Bs.N ⟨w,[]⟩) 96 4 (Gc es p x.1).length ((Gc es p x.1).flatMap jU) x.2]) (0,none,0) (jgw _) ⟨J,sz⟩ (fun _ h=>h) ?_
 intro⟨k,rA,rc⟩ hk L hL1
 refine v9 ?_;refine r9 ?_
 have hk:k≤n:=hk
 have hnb:=jdn (p:=p) (show k≤es.length by omega)
 have hob:=jbp (p:=p) (show k≤es.length by omega)
 refine S5 ?_;refine cZ (fun c1=> ?_) (fun c1=> ?_)
 ·have hlt:k<n:=Om
  obtain ⟨eb,eo,rfl,_⟩ :=h.2 Om
  have hN:=Cx (p:=p) (show k<es.length by omega)
  have hO:=CB (p:=p) (show k<es.length by omega)
  refine S7 ?_;refine a9 (jk J J qm J (uV (fun w' hs=>h.over hs.fin) hlt)) ?_;refine S1 ?_;refine aL (fun b4=> ?_);refine N14 ?_;refine cZ (fun c2=> ?_) (fun c2=> ?_)
  ·have he:lg es k=p:=of_decide_eq_true (IY▸c2)
   have hnp:Ky (lg es k) =p:= (H6 hord hne).2 (.inl he)
   rw [if_pos hnp,he,Pv hord] at hN
   rw [if_pos hnp,jgW] at hO
   refine S6 ?_;refine Y5 (k:=2) J J J J (J) (by rfl) QI.szx J ?_;refine N8 ?_
   exact j4 hL1 ((k+1,rA,rc)) ((show k+1≤n by omega)) (by simp only;omega) ⟨(by rw [hO];rfl),vi Om,sz⟩ (fun _ h=>h.upto ⟨J,J,by rw [hN],by rw [hO],trivial⟩)
  ·have he:¬lg es k=p:=of_decide_eq_false (IY▸c2)
   refine S6 ?_;refine a9 (J0 J J (UQ J J)) ?_;refine S3 ?_;refine cZ (fun c3=> ?_) (fun c3=> ?_)
   ·have hr:lg es k=vD p:=of_decide_eq_true (IY (f:=vD p)▸c3)
    have hnp:Ky (lg es k) =p:= (H6 hord hne).2 (.inr hr)
    rw [if_pos hnp,hr,jbX hord hne] at hN
    rw [if_pos hnp,jgW] at hO
    refine S6 ?_;refine Y5 (k:=2) J J J J (J) (by rfl) QI.szx J ?_;refine N8 ?_
    exact j4 hL1 ((k+1,rA,rc)) ((show k+1≤n by omega)) (by simp only;omega) ⟨(by rw [hO];rfl),vi Om,sz⟩ (fun _ h=>h.upto ⟨J,J,by rw [hN];rfl,by rw [hO],trivial⟩)
   ·have hr:¬lg es k=vD p:=of_decide_eq_false (IY (f:=vD p)▸c3)
    have hnp:¬Ky (lg es k) =p:=fun k=> ((H6 hord hne).1 k).elim he hr
    rw [if_neg hnp,Int.add_zero] at hN
    rw [if_neg hnp] at hO
    refine S4 ?_;refine Jw J J (kZ J) J (lb J) (fun b5=> ?_);refine N1 ?_;refine JV (k:=3) J jV qd Dc J Dc J J J (fun w' hs=>qR hs (k:=5) J J) (by simp [Value.oneCell']) (by unfold maxLen;omega) Om (jgx _) (fun r1=> ?_);refine N9 ?_
    exact j4 hL1 ((k+1,r1)) ((show k+1≤n by omega)) (by simp only;omega) ⟨(by rw [hO,jgv];rfl),vi Om,sz⟩ (fun _ h=>h.upto ⟨J,J,by rw [hN],by rw [hO,jgv,jgG];rfl,trivial⟩)
 ·have hin:k=n:=by omega
  subst hin
  rw [show Fm es p k=xK es p by rw [←hl,jbc]] at*
  have hw1:=jed true (Gc es p k) (wC p) (wN p)
  have hw2:Xy true (Gc es p k) (wC p) (wN p) =OU es p:=by rw [←hl,jcu]
  rw [hw2] at hw1
  have hoo:∀l∈Gc es p k,qr l:=fun l hl=>hok l (jg7 ((jh2.1 hl).1))
  refine S22 ?_;refine a9 (J0 J J (QN J J)) ?_;refine a9 (jJ Ul J J (fun w1 hs=>hw2▸Zp rA _ rc (Gc es p k) (wC p) (wN p) true w1 (yb (hs.all 3 _ J).1 J) Om hoo (by unfold wA wC;omega) (by unfold wA wN;omega))) ?_;refine S13 ?_;refine cZ (fun c4=> ?_) (fun c4=> ?_)
  ·refine S8 ?_;refine Y6 (k:=2) J J J J (J) (by rfl) QI.szx J ?_;refine N2 ?_;refine Y7 (k:=2) J J J J (J) (by rfl) QI.szx J ?_;refine N8 ?_;refine jL J (qh (k:=1) J VD J J) ?_
   intro w' hs
   exact⟨by rw [Z8,if_pos c4],hs.fin⟩
  ·refine S8 ?_;refine Y6 (k:=2) J J J J (J) (by rfl) QI.szx J ?_;refine N2 ?_;refine Y7 (k:=2) J J J J (J) (by rfl) QI.szx J ?_;refine N8 ?_;refine jL J (qh (k:=1) J VD J J) ?_
   intro w' hs
   exact⟨by rw [Z8,if_neg c4],hs.fin⟩
end Go.Proofs.YtbahojdbmmjkcaaGreat
