import Derived.Test.YtbahojdbmmjkcaaGreatMSnapG
import Derived.Test.YtbahojdbmmjkcaaGreatMTopo2
set_option linter.unusedVariables false
set_option linter.unusedSimpArgs false
namespace Go.Proofs.YtbahojdbmmjkcaaGreat
open Go Go.RowKit
variable {a b c d h':Pn} {e:Leg} {es:List Leg} {hot:List Pn} {m u u' v:Int}
theorem xY {q:Pn} (h:q∈Qk a b c d) :Qd a b c d=1∨Qd a b c d=3:=by
 unfold Qd
 have: (Qk a b c d).length≠0:=fun e=>by
  have:=jjW e
  rw [this] at h
  cases h
 rw [if_neg this]
 split<;>simp
theorem Hw {q r:Pn} (h:q∈Qk a b c d) (h':r∈Qk a b c d) (hne:q≠r) :Qd a b c d=3:=by
 unfold Qd
 match hl:Qk a b c d,h,h' with
 | [x],h,h'=>exact absurd ((jjp.1 h).trans (jjp.1 h').symm) hne
 | x::y::l,_,_=>simp
theorem jfz (hl:a.2=b.2) (hab:a.1≠b.1) (hcd:c≠d) (hn:¬((a=c∧b=d)∨(a=d∧b=c))) (h:VG a b c d=true) :
  ¬(Q0 (2*c.1) (2*c.2) (2*d.1) (2*d.2) (a.1+b.1) (a.2+b.2) =0∧(min (2*c.1) (2*d.1)≤a.1+b.1∧a.1+b.1≤max (2*c.1) (2*d.1))∧min (2*c.2) (2*d.2)≤a.2+b.2∧a.2+b.2≤max (2*c.2) (2*d.2)) :=by
 rintro⟨ht,hx,hy⟩
 have hap:KU a b c d=false:=by
  rw [KU]
  simp only [Bool.or_eq_false_iff,decide_eq_false_iff_not]
  omega
 have k3:Qd a b c d≠3:=fun k=>by
  unfold VG at h
  rw [hap,k] at h
  simp [hn] at h
 have k2:Qd a b c d≠2:=fun k=>by
  unfold VG at h
  rw [hap,k] at h
  simp at h
 have k1:Qd a b c d=1→a=c∨a=d∨b=c∨b=d:=fun k=>by
  unfold VG at h
  rw [hap,k] at h
  simp only [jkm,if_false,if_neg (show¬((1:Int) =2) by omega),if_true,jj9,jkV,decide_eq_false_iff_not,ne_eq,Decidable.not_not] at h
  rcases h with((h | h) | h) | h
  ·exact .inl h
  ·exact .inr (.inl h)
  ·exact .inr (.inr (.inl h))
  ·exact .inr (.inr (.inr h))
 obtain ⟨a1,a2⟩ :=a
 obtain ⟨b1,b2⟩ :=b
 obtain ⟨c1,c2⟩ :=c
 obtain ⟨d1,d2⟩ :=d
 simp only [Prod.mk.injEq,ne_eq,not_and] at*
 subst hl
 by_cases hlev:c2=d2
 ·
  subst hlev
  have hyy:c2=a2:=by omega
  subst hyy
  have hcd':c1≠d1:=fun e=>hcd e rfl
  have on1:∀x:Int,(min a1 b1≤x∧x≤max a1 b1)→(min c1 d1≤x∧x≤max c1 d1)→kd (a1,c2) (b1,c2) (c1,c2) (d1,c2) (x,c2) =true:=fun x h1 h2=>by
   rw [kd,jjl,KH,KH]
   simp only [tn,Q0]
   refine⟨⟨by simp,h1,by omega⟩,by simp,h2,by omega⟩
  have mem1:∀x:Int,(x=a1∨x=b1∨x=c1∨x=d1)→(min a1 b1≤x∧x≤max a1 b1)→(min c1 d1≤x∧x≤max c1 d1)→(x,c2)∈Qk (a1,c2) (b1,c2) (c1,c2) (d1,c2) :=fun x h0 h1 h2=>
   qL.2 ⟨by rcases h0 with rfl | rfl | rfl | rfl<;>simp,on1 x h1 h2⟩
  refine k3 (Hw (q:= (max (min a1 b1) (min c1 d1),c2)) (r:= (min (max a1 b1) (max c1 d1),c2)) (mem1 _ Om Om Om) (mem1 _ Om Om Om) fun e=> ?_)
  simp only [Prod.mk.injEq] at e
  omega
 ·by_cases hc:c2=a2
  ·
   have e1:Q0 (2*c1) (2*c2) (2*d1) (2*d2) (a1+b1) (a2+a2) = -2* ((d2- c2) * (a1+b1- 2*c1)) :=by subst hc;simp only [Q0];grind
   have e2: (d2- c2) * (a1+b1- 2*c1) =0:=by omega
   have e3:a1+b1=2*c1:=by rcases Tv e2 with k | k<;>omega
   subst hc
   have m: (c1,c2)∈Qk (a1,c2) (b1,c2) (c1,c2) (d1,d2) :=qL.2 ⟨by simp,by
    rw [kd,jjl,KH,KH]
    simp only [tn,Q0]
    refine⟨⟨by simp,by omega,by omega⟩,by simp,by omega,by omega⟩⟩
   rcases xY m with k | k
   ·exact absurd (k1 k) Om
   ·exact k3 k
  ·by_cases hd:d2=a2
   ·have e1:Q0 (2*c1) (2*c2) (2*d1) (2*d2) (a1+b1) (a2+a2) =2* ((d2- c2) * (2*d1- (a1+b1))) :=by subst hd;simp only [Q0];grind
    have e2: (d2- c2) * (2*d1- (a1+b1)) =0:=by omega
    have e3:a1+b1=2*d1:=by rcases Tv e2 with k | k<;>omega
    subst hd
    have m: (d1,d2)∈Qk (a1,d2) (b1,d2) (c1,c2) (d1,d2) :=qL.2 ⟨by simp,by
     rw [kd,jjl,KH,KH]
     simp only [tn,Q0]
     refine⟨⟨by simp,by omega,by omega⟩,by grind,by omega,by omega⟩⟩
    rcases xY m with k | k
    ·exact absurd (k1 k) Om
    ·exact k3 k
   ·
    by_cases he: (Qk (a1,a2) (b1,a2) (c1,c2) (d1,d2)).length=0
    ·have hs:qg (a1,a2) (b1,a2) (c1,c2) (d1,d2) =true:=by
      rw [K8]
      have s1:=Z6 (a:=b1- a1) (b:=c2- a2) (p:=tn (a1,a2) (b1,a2) (c1,c2)) (by simp only [tn,Q0];grind)
      have s2:=Z6 (a:=b1- a1) (b:=d2- a2) (p:=tn (a1,a2) (b1,a2) (d1,d2)) (by simp only [tn,Q0];grind)
      have s3:=Z6 (a:=d2- c2) (b:=b1- a1) (p:=tn (c1,c2) (d1,d2) (a1,a2) - tn (c1,c2) (d1,d2) (b1,a2)) (by simp only [tn,Q0];grind)
      have s4:2* (tn (c1,c2) (d1,d2) (a1,a2) +tn (c1,c2) (d1,d2) (b1,a2)) =0:=by rw [←ht];simp only [tn,Q0];grind
      clear k1 k2 k3 h hap ht he hn hcd
      generalize tn (a1,a2) (b1,a2) (c1,c2) =T1 at*
      generalize tn (a1,a2) (b1,a2) (d1,d2) =T2 at*
      generalize tn (c1,c2) (d1,d2) (a1,a2) =T3 at*
      generalize tn (c1,c2) (d1,d2) (b1,a2) =T4 at*
      rcases Int.lt_or_gt_of_ne hab with g | g<;>rcases(show c2<a2∧a2<d2∨d2<a2∧a2<c2 by omega) with g' | g'
      ·have t1:T1<0:=by omega
       have t2:0<T2:=by omega
       exact⟨.inl ⟨t1,t2⟩,by omega⟩
      ·have t1:0<T1:=by omega
       have t2:T2<0:=by omega
       exact⟨.inr ⟨t1,t2⟩,by omega⟩
      ·have t1:0<T1:=by omega
       have t2:T2<0:=by omega
       exact⟨.inr ⟨t1,t2⟩,by omega⟩
      ·have t1:T1<0:=by omega
       have t2:0<T2:=by omega
       exact⟨.inl ⟨t1,t2⟩,by omega⟩
     refine k2 ?_
     unfold Qd
     rw [if_pos he,if_pos hs]
    ·have:∃q,q∈Qk (a1,a2) (b1,a2) (c1,c2) (d1,d2) :=by
      cases hh:Qk (a1,a2) (b1,a2) (c1,c2) (d1,d2) with
      | nil=>rw [hh] at he;exact absurd rfl he
      | cons x l=>exact⟨x,by simp⟩
     obtain ⟨q,hq⟩ :=this
     rcases xY hq with k | k
     ·exact absurd (k1 k) Om
     ·exact k3 k
theorem FD (f:Int→Int→Int) {xs:List (Int×Int)} :∀k,k≤xs.length→sm (fun e:Leg=>f e.ax e.ay- f e.bx e.b_y) (qy xs k) =f (px xs 0) (py xs 0) - f (px xs (k % xs.length)) (py xs (k % xs.length))
 | 0,_=>by simp [qy,sm]
 | k+1,h=>by
  have ih:=FD f (xs:=xs) k Om
  rw [jkA (show k<xs.length by omega)] at ih
  rw [Kb]
  split
  ·rename_i he
   rw [ih]
   unfold nx at he
   rw [he.1,he.2]
  ·rw [kV,ih]
   simp only [sm,nx]
   omega
theorem jdC (f:Int→Int→Int) (xs:List (Int×Int)) :sm (fun e:Leg=>f e.ax e.ay- f e.bx e.b_y) (JZ xs) =0:=by
 rw [JZ,FD f _ (jjm _),jk8]
 omega
theorem C7 (f:Int→Int→Int) (rs:List jO) :∀k,sm (fun e:Leg=>f e.ax e.ay- f e.bx e.b_y) (qE rs k) =0
 | 0=>rfl
 | k+1=>by
  rw [qE,kV,C7 f rs k,jdC]
  rfl
structure Fine (es:List Leg) :Prop where
 ok:∀e∈es,qM e
 ne:∀e∈es,lA e≠lB e
 close:∀f:Int→Int→Int,sm (fun e:Leg=>f e.ax e.ay- f e.bx e.b_y) es=0
def RJ (es:List Leg) (p:Leg) :Prop:=p.ay=p.b_y→∀e∈es,Q3 e≠p→¬(Q0 (2*e.ax) (2*e.ay) (2*e.bx) (2*e.b_y) (vQ p) (vh p) =0∧(min (2*e.ax) (2*e.bx)≤vQ p∧vQ p≤max (2*e.ax) (2*e.bx))∧min (2*e.ay) (2*e.b_y)≤vh p∧vh p≤max (2*e.ay) (2*e.b_y))
def I4 (es:List Leg) (p:Leg) :Int:=sm (fun e=>sg e* (if Q3 e=p then 0 else Di p (Q3 e))) es
theorem jdQ {p:Leg} (hf:Fine es) (hc:RJ es p) (hp:¬vG (lB p) (lA p)) (hne:lA p≠lB p) :
  kZ es p=⟨p,Qo es p,I4 es p+Qo es p,I4 es p⟩ :=by
 have d0:I4 es p=sm (fun e=>if Q3 e=p then 0 else(if p.ay=p.b_y then QB (xo (kg true e)) (-(vh p)) (vQ p) else QB (kg true e) (vQ p) (vh p))) es:=by
  refine J0 fun e _=> ?_
  split
  ·simp
  ·unfold Di
   split
   ·exact jga _ _ _
   ·exact je9 _ _ _
 unfold kZ
 by_cases hl:p.ay=p.b_y
 ·rw [if_pos hl]
  simp only [if_pos hl] at d0
  have hlt:p.ax<p.bx:=by
   unfold vG lA lB at hp
   unfold lA lB at hne
   simp only [ne_eq,Prod.mk.injEq,not_and] at hp hne
   omega
  have key:WX es p- I4 es p=Qo es p:=by
   rw [d0]
   unfold WX
   rw [←yM]
   have e1:sm (fun e:Leg=> (if Q3 e=p then 0 else QB (kg true e) (vQ p) (vh p)) - (if Q3 e=p then 0 else QB (xo (kg true e)) (-(vh p)) (vQ p))) es
     =sm (fun e:Leg=> (qu (2*e.ax) (2*e.ay) (vQ p) (vh p) - qu (2*e.bx) (2*e.b_y) (vQ p) (vh p)) + (if Q3 e=p then sg e else 0)) es:=by
    refine J0 fun e he=> ?_
    split
    ·rename_i hn
     have hq1:qu (2*p.ax) (2*p.ay) (vQ p) (vh p) =0:=by unfold qu vQ;rw [if_neg Om]
     have hq2:qu (2*p.bx) (2*p.b_y) (vQ p) (vh p) =1:=by unfold qu vQ vh;rw [if_pos Om]
     rcases(MK hp hne).1 hn with rfl | rfl
     ·rw [Ev hp,hq1,hq2];rfl
     ·rw [jd1 hp hne]
      simp only [ku]
      rw [hq1,hq2];rfl
    ·rename_i hn
     have:=jei (e:=kg true e) (hc hl e he hn)
     simp only [kg,if_true] at this⊢
     rw [this]
     omega
   rw [e1,yL,hf.close fun x y=>qu (2*x) (2*y) (vQ p) (vh p)]
   unfold Qo
   omega
  rw [show WX es p=I4 es p+Qo es p by omega,show I4 es p+Qo es p- Qo es p=I4 es p by omega]
 ·rw [if_neg hl]
  simp only [if_neg hl] at d0
  have:I4 es p=WX es p:=d0
  rw [this]
theorem ML (hne:lA e≠lB e) :Q3 (ku e) =Q3 e:=by
 unfold Q3
 rcases ym (lA e) (lB e) with h | h | h
 ·rw [if_pos (show vG (lB (ku e)) (lA (ku e)) from h),if_neg fun k=>kD _ (VL h k)]
  rfl
 ·exact absurd h hne
 ·rw [if_pos h,if_neg (show¬vG (lB (ku e)) (lA (ku e)) from fun k=>kD _ (VL (show vG (lA e) (lB e) from k) h))]
theorem jfy (e:Leg) :vQ (Q3 e) =e.ax+e.bx∧vh (Q3 e) =e.ay+e.b_y∧((Q3 e).ay= (Q3 e).b_y↔e.ay=e.b_y) :=by
 unfold Q3 vQ vh
 split
 ·simp only [ku];omega
 ·exact⟨rfl,rfl,Iff.rfl⟩
theorem jhB (hne:lA e≠lB e) :lA (Q3 e)≠lB (Q3 e) :=by
 unfold Q3
 split
 ·exact fun h=>hne h.symm
 ·exact hne
theorem Yc (h:e∈es) :∃i,i<es.length∧lg es i=e:=by
 obtain ⟨i,hi,rfl⟩ :=jj0 h
 exact⟨i,hi,(ye hi).symm⟩
theorem jdh {m:List Leg} {l:List Nt} (hl:l=Qe false es []) (hr:EZ m) (hm:∀q,q∈m↔∃e∈es,q=Q3 e) :l.map (·.e) =QS m:=by
 have ha:Xy l:=by rw [hl];exact Wq List.Pairwise.nil
 refine zP (List.pairwise_map.2 ha) (D3 hr) fun q=> ?_
 rw [ZS,hm,jjx,hl]
 rw [show(∃a∈Qe false es [],a.e=q)↔_ from Ws]
 simp
def Frag (hot:List Pn) (a b h h':Pn) :Prop:=∃V u u':Int,0<V∧(0≤u∧u≤u'∧u'≤V)∧wz a b h u V∧wz a b h' u' V∧∀k∈hot,k≠h→k≠h'→M1 a b k V u u'
theorem TO {f d lo:Int} (hm:0<m) :Zk f d lo (u*m) (v*m)↔Zk f d lo u v:=by
 have e1:lo* (v*m) =lo*v*m:=by grind
 have e2:f* (v*m) +u*m*d= (f*v+u*d) *m:=by grind
 have e3: (lo+2) * (v*m) = (lo+2) *v*m:=by grind
 unfold Zk
 rw [e1,e2,e3]
 constructor
 ·rintro⟨h1,h2⟩;exact⟨jjY h1 hm,jjV h2 Om⟩
 ·rintro⟨h1,h2⟩;exact⟨jjn h1 Om,jjE h2 hm⟩
theorem YO {p:Pn} (hm:0<m) :wz a b p (u*m) (v*m)↔wz a b p u v:=by
 unfold wz
 rw [TO hm,TO hm]
theorem Pt {k:Pn} {V:Int} (hm:0<m) (h:M1 a b k V u u') :M1 a b k (V*m) (u*m) (u'*m) :=fun t v hv h1 h2=>by
 refine h t v hv ?_ ?_
 ·have e1:u*m*v=u*v*m:=by grind
  have e2:t* (V*m) =t*V*m:=by grind
  rw [e1,e2] at h1
  exact jjY h1 hm
 ·have e1:u'*m*v=u'*v*m:=by grind
  have e2:t* (V*m) =t*V*m:=by grind
  rw [e1,e2] at h2
  exact jjY h2 hm
theorem Frag.scale {h:Pn} {V:Int} (hm:0<m) (hV:0<V) (hu:0≤u∧u≤u'∧u'≤V) (h1:wz a b h u V) (h2:wz a b h' u' V) (h3:∀k∈hot,k≠h→k≠h'→M1 a b k V u u') :
  0<V*m∧(0≤u*m∧u*m≤u'*m∧u'*m≤V*m)∧wz a b h (u*m) (V*m)∧wz a b h' (u'*m) (V*m)∧∀k∈hot,k≠h→k≠h'→M1 a b k (V*m) (u*m) (u'*m) :=
 ⟨jjZ hV hm,⟨jjD hu.1 Om,jjn hu.2.1 Om,jjn hu.2.2 Om⟩,(YO hm).2 h1,(YO hm).2 h2,fun k a1 a2 a3=>Pt hm (h3 k a1 a2 a3)⟩
theorem Er (a b c d:Pn) (V w w' t:Int) :tn (sc c d w V) (sc c d w' V) (sc a b t V) =4* (w'- w) * (V*tn c d a+t* (tn c d b- tn c d a)) :=by
 simp only [sc,tn,Q0]
 grind
theorem jdr {A B V D p q:Int} (hu:0≤u∧u≤u'∧u'≤V) (hD:0≤D) (hp:p=D* (V*A+u* (B- A))) (hq:q=D* (V*A+u'* (B- A))) (h: (p<0∧0<q)∨(0<p∧q<0)) : (A<0∧0<B)∨(0<A∧B<0) :=by
 have e1:V*A+u* (B- A) = (V- u) *A+u*B:=by grind
 have e2:V*A+u'* (B- A) = (V- u') *A+u'*B:=by grind
 rw [e1] at hp
 rw [e2] at hq
 have s1:=Kc hp
 have s2:=Kc hq
 have k:¬(0≤A∧0≤B) :=fun ⟨g1,g2⟩ =>by
  have m1:=jjD (show 0≤V- u by omega) g1
  have m2:=jjD hu.1 g2
  have m3:=jjD (show 0≤V- u' by omega) g1
  have m4:=jjD (show 0≤u' by omega) g2
  omega
 have k':¬(A≤0∧B≤0) :=fun ⟨g1,g2⟩ =>by
  have m1:=jkS (show 0≤V- u by omega) g1
  have m2:=jkS hu.1 g2
  have m3:=jkS (show 0≤V- u' by omega) g1
  have m4:=jkS (show 0≤u' by omega) g2
  omega
 omega
theorem PP {V w w':Int} (hV:0<V) (hu:0≤u∧u≤u'∧u'≤V) (hw:0≤w∧w≤w'∧w'≤V) (hs:qg (sc a b u V) (sc a b u' V) (sc c d w V) (sc c d w' V) =true) :
  qg a b c d=true∧∃t t' v:Int,0<v∧(u*v≤t*V∧t*V≤u'*v)∧(w*v≤t'*V∧t'*V≤w'*v)∧sc a b t v=sc c d t' v:=by
 obtain ⟨h1,h2⟩ :=K8.1 hs
 have hd:=Rp (sc a b u V) (sc a b u' V) (sc c d w V) (sc c d w' V)
 refine⟨K8.2 ⟨?_,?_⟩,?_⟩
 ·exact jdr hw Om (Er c d a b V u u' w) (Er c d a b V u u' w') h1
 ·exact jdr hu Om (Er a b c d V w w' u) (Er a b c d V w w' u') h2
 ·
  have i1:∀q1 q2:Int,(sc a b (u*q2- u'*q1) (V* (q2- q1))) = (q2* (sc a b u V).1- q1* (sc a b u' V).1,q2* (sc a b u V).2- q1* (sc a b u' V).2) :=fun q1 q2=>by
   apply Prod.ext<;> (simp only [sc];grind)
  have i2:∀p1 p2:Int,(sc c d (w'*p1- w*p2) (V* (p1- p2))) = (p1* (sc c d w' V).1- p2* (sc c d w V).1,p1* (sc c d w' V).2- p2* (sc c d w V).2) :=fun p1 p2=>by
   apply Prod.ext<;> (simp only [sc];grind)
  have j1:∀X X' Y Y':Pn,tn Y Y' X'*X.1- tn Y Y' X*X'.1=tn X X' Y*Y'.1- tn X X' Y'*Y.1:=fun X X' Y Y'=>by simp only [tn,Q0];grind
  have j2:∀X X' Y Y':Pn,tn Y Y' X'*X.2- tn Y Y' X*X'.2=tn X X' Y*Y'.2- tn X X' Y'*Y.2:=fun X X' Y Y'=>by simp only [tn,Q0];grind
  have J1:=j1 (sc a b u V) (sc a b u' V) (sc c d w V) (sc c d w' V)
  have J2:=j2 (sc a b u V) (sc a b u' V) (sc c d w V) (sc c d w' V)
  generalize tn (sc a b u V) (sc a b u' V) (sc c d w V) =p1 at*
  generalize tn (sc a b u V) (sc a b u' V) (sc c d w' V) =p2 at*
  generalize tn (sc c d w V) (sc c d w' V) (sc a b u V) =q1 at*
  generalize tn (sc c d w V) (sc c d w' V) (sc a b u' V) =q2 at*
  rcases h2 with⟨g1,g2⟩ |⟨g1,g2⟩
  ·refine⟨u*q2- u'*q1,w'*p1- w*p2,V* (q2- q1),jjZ hV Om,?_,?_,?_⟩
   ·have e1:u* (V* (q2- q1)) = (u*q2- u*q1) *V:=by grind
    have e2:u'* (V* (q2- q1)) = (u'*q2- u'*q1) *V:=by grind
    rw [e1,e2]
    have m1:u*q2≤u'*q2:=jjn hu.2.1 Om
    have m2:u'*q1≤u*q1:=jkI hu.2.1 Om
    exact⟨jjn Om Om,jjn Om Om⟩
   ·have e0:q2- q1=p1- p2:=by omega
    rw [e0]
    have e1:w* (V* (p1- p2)) = (w*p1- w*p2) *V:=by grind
    have e2:w'* (V* (p1- p2)) = (w'*p1- w'*p2) *V:=by grind
    rw [e1,e2]
    have m1:w*p1≤w'*p1:=jjn hw.2.1 Om
    have m2:w'*p2≤w*p2:=jkI hw.2.1 Om
    exact⟨jjn Om Om,jjn Om Om⟩
   ·rw [i1,show q2- q1=p1- p2 by omega,i2,J1,J2]
  ·have i1':=i1 (-q1) (-q2)
   have i2':=i2 (-p1) (-p2)
   refine⟨u* -q2- u'* -q1,w'* -p1- w* -p2,V* (-q2- -q1),jjZ hV Om,?_,?_,?_⟩
   ·have e1:u* (V* (-q2- -q1)) = (u* -q2- u* -q1) *V:=by grind
    have e2:u'* (V* (-q2- -q1)) = (u'* -q2- u'* -q1) *V:=by grind
    rw [e1,e2]
    have m1:u* -q2≤u'* -q2:=jjn hu.2.1 Om
    have m2:u'* -q1≤u* -q1:=jkI hu.2.1 Om
    exact⟨jjn Om Om,jjn Om Om⟩
   ·have e0: -q2- -q1= -p1- -p2:=by omega
    rw [e0]
    have e1:w* (V* (-p1- -p2)) = (w* -p1- w* -p2) *V:=by grind
    have e2:w'* (V* (-p1- -p2)) = (w'* -p1- w'* -p2) *V:=by grind
    rw [e1,e2]
    have m1:w* -p1≤w'* -p1:=jjn hw.2.1 Om
    have m2:w'* -p2≤w* -p2:=jkI hw.2.1 Om
    exact⟨jjn Om Om,jjn Om Om⟩
   ·have n:∀x y:Int,-x*y= -(x*y) :=fun x y=>jlh ..
    rw [i1 (-q1) (-q2),show-q2- -q1= -p1- -p2 by omega,i2 (-p1) (-p2)]
    simp only [n]
    apply Prod.ext
    ·simp only;omega
    ·simp only;omega
def RP (hot:List Pn) (a b c d:Pn) :Prop:=qg a b c d=true→∃k∈hot,∀t t' v:Int,0<v→sc a b t v=sc c d t' v→wz a b k t v
theorem FR {h g g':Pn} (hs:qg h h' g g'=true) :h≠h'∧g≠g'∧g≠h∧g≠h'∧g'≠h∧g'≠h':=by
 obtain ⟨h1,h2⟩ :=K8.1 hs
 have z1:∀p q:Pn,tn p p q=0:=fun p q=>by simp only [tn,Q0];grind
 have z2:∀p q:Pn,tn p q p=0:=fun p q=>by simp only [tn,Q0];grind
 have z3:∀p q:Pn,tn p q q=0:=fun p q=>by simp only [tn,Q0];grind
 refine⟨?_,?_,?_,?_,?_,?_⟩ <;>rintro rfl<;>simp [z1,z2,z3] at h1 h2
theorem NV {h g g':Pn} (F:Frag hot a b h h') (G:Frag hot c d g g') (mh:h∈hot) (mh':h'∈hot) (mg:g∈hot) (mg':g'∈hot) (hc:RP hot a b c d) :qg h h' g g'≠true:=fun hs=>by
 obtain ⟨n1,n2,n3,n4,n5,n6⟩ :=FR hs
 obtain ⟨V,u,u',hV,hu,i1,i2,i3⟩ :=F
 obtain ⟨W,w,w',hW,hw,j1,j2,j3⟩ :=G
 obtain ⟨pV,qu,k1,k2,k3⟩ :=Frag.scale hW hV hu i1 i2 i3
 obtain ⟨pW,qw,l1,l2,l3⟩ :=Frag.scale hV hW hw j1 j2 j3
 rw [jj1 W V] at pW qw l1 l2 l3
 generalize V*W=U at*
 generalize u*W=x at*
 generalize u'*W=x' at*
 generalize w*V=y at*
 generalize w'*V=y' at*
 refine jdj pV qu qw k1 k2 l1 l2 n1 n2 (k3 g mg n3 n4) (k3 g' mg' n5 n6) (l3 h mh (Ne.symm n3) (Ne.symm n5)) (l3 h' mh' (Ne.symm n4) (Ne.symm n6)) ?_ hs
 intro hss
 obtain ⟨s1,t,t',v,hv,s2,s3,s4⟩ :=PP pV qu qw hss
 obtain ⟨k,mk,hk⟩ :=hc s1
 have p1:=hk t t' v hv s4
 have p2:wz c d k t' v:=by rw [Vl,←s4];exact Vl.1 p1
 by_cases e1:k=g
 ·subst e1;exact k3 k mk n3 n4 t v hv s2.1 s2.2 p1
 ·by_cases e2:k=g'
  ·subst e2;exact k3 k mk n5 n6 t v hv s2.1 s2.2 p1
  ·exact l3 k mk e1 e2 t' v hv s3.1 s3.2 p2
theorem OZ {s x:Sp} (hs:0<s.ld) (hx:0<x.ld) (hv:0<v) (h:zC x s=false) (hl:lowOk x u v) :lowOk s u v:=by
 have hns:¬(x.ln*s.ld<s.ln*x.ld∨(x.ln*s.ld=s.ln*x.ld∧x.lc=true∧s.lc=false)) :=fun h'=>by
  have:=GP.2 h'
  rw [h] at this
  cases this
 have hle:s.ln*x.ld≤x.ln*s.ld:=jkn.1 fun h'=>hns (.inl h')
 by_cases g:x.ln*v<u*x.ld
 ·exact .inl (KX hx hs hv hle g)
 ·obtain ⟨g1,g2⟩ :=hl.resolve_left g
  by_cases k:s.ln*x.ld<x.ln*s.ld
  ·exact .inl (wy hx hs hv k Om)
  ·have l1:=vq (a:=s.ln) (b:=s.ld) (c:=x.ln) (d:=x.ld) (e:=u) (f:=v) hx hs hv Om Om
   have l2:=vq (a:=u) (b:=v) (c:=x.ln) (d:=x.ld) (e:=s.ln) (f:=s.ld) hx hv hs Om Om
   refine .inr ⟨by omega,?_⟩
   cases hc:s.lc with
   | true=>rfl
   | false=>exact absurd (.inr ⟨by omega,g2,hc⟩) hns
theorem Hm {s:Sp} {v':Int} (hs:0<s.hd) (hv:0<v) (hv':0<v') (hle:u*v'≤u'*v) (h:highOk s u' v') :highOk s u v:=by
 rcases h with h |⟨h,hc⟩
 ·exact .inl (KX hv' hv hs hle h)
 ·by_cases k:u*v'<u'*v
  ·exact .inl (wy hv' hv hs k Om)
  ·have l1:=vq (a:=u) (b:=v) (c:=u') (d:=v') (e:=s.hn) (f:=s.hd) hv' hv hs Om Om
   have l2:=vq (a:=s.hn) (b:=s.hd) (c:=u') (d:=v') (e:=u) (f:=v) hv' hs hv Om Om
   exact .inr ⟨by omega,hc⟩
theorem jdK {f' d' k:Int} (hv:0<v) (h0:0≤u) (h1:u≤v) (h:Zk (2*f') (2* (d'- f')) (2*k- 1) u v) :min f' d'- 1≤k∧k≤max f' d'+1:=by
 obtain ⟨g1,g2⟩ :=h
 have e:2*f'*v+u* (2* (d'- f')) =2* (f'* (v- u) +d'*u) :=by grind
 rw [e] at g1 g2
 have a1:min f' d'* (v- u)≤f'* (v- u) :=jjn Om Om
 have a2:min f' d'*u≤d'*u:=jjn Om h0
 have a3:f'* (v- u)≤max f' d'* (v- u) :=jjn Om Om
 have a4:d'*u≤max f' d'*u:=jjn Om h0
 have b1:min f' d'* (v- u) +min f' d'*u=min f' d'*v:=by grind
 have b2:max f' d'* (v- u) +max f' d'*u=max f' d'*v:=by grind
 have c1: (2*k- 1) *v≤(2*max f' d') *v:=by
  have:2*max f' d'*v=2* (max f' d'*v) :=by grind
  omega
 have c2: (2*min f' d') *v< (2*k- 1+2) *v:=by
  have:2*min f' d'*v=2* (min f' d'*v) :=by grind
  omega
 have d1:=jjY c1 hv
 have d2:=jjV c2 Om
 omega
theorem TA {k:Pn} (hv:0<v) (h0:0≤u) (h1:u≤v) (h:wz a b k u v) :KN a b k=true:=by
 have x:=jdK hv h0 h1 h.1
 have y:=jdK hv h0 h1 h.2
 exact Yl (XK x.1 x.2) (zU y.1 y.2) (MG hv h0 h1 h)
theorem UF {p:Pn} (h:Vm a b p=true) :∃u v:Int,0<v∧yH (J4 a b p) u v∧0≤u∧u≤v∧wz a b p u v:=by
 have hn:vT (J4 a b p) =true:=by have h':=h;unfold Vm XZ at h';simp only [jjl] at h';exact h'.2
 obtain ⟨u,v,hv,hm⟩ :=MJ (K4 a b p) hn
 have:= (K5 hv h).1 hm
 exact⟨u,v,hv,hm,this.1.1,this.1.2,this.2⟩
theorem jfg {l1 l2:List Pn} {h:Pn} (hnd:hot.Nodup) (hp:qC a b hot=l1++h::h'::l2) :Frag hot a b h h':=by
 have hs:UU (KQ a b) (qC a b hot) :=by rw [Wg];exact ZL a b hot
 have hd:=uL (a:=a) (b:=b) hnd
 have hi:∀p∈qC a b hot,Vm a b p=true:=fun p hp=>Yk (kU.1 hp).2
 have mh:h∈qC a b hot:=by rw [hp];simp
 have mh':h'∈qC a b hot:=by rw [hp];simp
 have hmem:∀k,k∈hot→KN a b k=true→k≠h→k≠h'→k∈l1∨k∈l2:=fun k k1 k2 k3 k4=>by
  have:=kU.2 ⟨k1,k2⟩
  rw [hp] at this
  simp only [jjz,jjw] at this
  rcases this with h1 | rfl | rfl | h1
  ·exact .inl h1
  ·exact absurd rfl k3
  ·exact absurd rfl k4
  ·exact .inr h1
 rw [hp] at hs hd
 have hs1:=jkQ.1 hs
 have hs2:=jjX.1 hs1.2.1
 have hs3:=jjX.1 hs2.2
 have hne:h≠h':=fun e=>by
  have:= (List.nodup_append.1 hd).2.1
  rw [e] at this
  exact(jkJ.1 this).1 (by simp)
 obtain ⟨u0,v0,p0,m0,a0,b0,c0⟩ :=UF (hi h mh)
 obtain ⟨u1,v1,p1,m1,a1,b1,c1⟩ :=UF (hi h' mh')
 have pos:=fun p=>K4 a b p
 have hle:u0*v1≤u1*v0:=jkn.1 fun hlt=>by
  have lo:lowOk (J4 a b h) u1 v1:=OZ (pos h).1 (pos h').1 p1 (hs2.1 h' (by simp)) m1.1
  have hi':highOk (J4 a b h) u1 v1:=Hm (pos h).2 p1 p0 Om m0.2
  exact hne (UP p1 ((K5 p1 (hi h mh)).1 ⟨lo,hi'⟩).2 c1)
 refine⟨v0*v1,u0*v1,u1*v0,jjZ p0 p1,⟨jjD a0 Om,hle,?_⟩,?_,?_,?_⟩
 ·rw [jj1 v0 v1]
  exact jjn b1 Om
 ·exact(YO p1).2 c0
 ·rw [jj1 v0 v1]
  exact(YO p0).2 c1
 ·intro k k1 k2 k3 t v hv t1 t2 hin
  have t1':u0*v≤t*v0:=by
   have e1:u0*v1*v=u0*v*v1:=by grind
   have e2:t* (v0*v1) =t*v0*v1:=by grind
   rw [e1,e2] at t1
   exact jjY t1 p1
  have t2':t*v1≤u1*v:=by
   have e1:u1*v0*v=u1*v*v0:=by grind
   have e2:t* (v0*v1) =t*v1*v0:=by grind
   rw [e1,e2] at t2
   exact jjY t2 p0
  have g0:0≤t:=by
   refine jkn.1 fun hn=> ?_
   have:=jjD a0 (show 0≤v by omega)
   have:=jke hn p0
   omega
  have g1:t≤v:=by
   have e1:u1*v≤v1*v:=jjn b1 Om
   have e2:t*v1≤v*v1:=by rw [jj1 v v1];omega
   exact jjY e2 p1
  have hw:=TA hv g0 g1 hin
  have hik:=Yk hw
  have mk:= (K5 hv hik).2 ⟨⟨g0,g1⟩,hin⟩
  rcases hmem k k1 hw k2 k3 with c | c
  ·have lo:lowOk (J4 a b k) u0 v0:=OZ (pos k).1 (pos h).1 p0 (hs1.2.2 k c h (by simp)) m0.1
   have hi':highOk (J4 a b k) u0 v0:=Hm (pos k).2 p0 hv t1' mk.2
   exact k2 (UP p0 ((K5 p0 hik).1 ⟨lo,hi'⟩).2 c0)
  ·have lo:lowOk (J4 a b h') t v:=OZ (pos h').1 (pos k).1 hv (hs3.1 k c) mk.1
   have hi':highOk (J4 a b h') t v:=Hm (pos h').2 hv p1 t2' m1.2
   exact k3 (UP hv ((K5 hv (hi h' mh')).1 ⟨lo,hi'⟩).2 hin).symm
end Go.Proofs.YtbahojdbmmjkcaaGreat
