import Derived.Test.YtpncbbcmoiiipaaGreatMSnapG
import Derived.Test.YtpncbbcmoiiipaaGreatMTopo2
set_option linter.unusedVariables false
set_option linter.unusedSimpArgs false
namespace Go.Proofs.YtpncbbcmoiiipaaGreat
open Go Go.RowKit
theorem xy {a b c d q:Pn} (h:q∈Qk a b c d) :qU a b c d=1∨qU a b c d=3:=by
 unfold qU
 have: (Qk a b c d).length≠0:=fun e=>by
  have:=jiQ e
  rw [this] at h
  cases h
 rw [if_neg this]
 split<;>simp
theorem GW {a b c d q r:Pn} (h:q∈Qk a b c d) (h':r∈Qk a b c d) (hne:q≠r) :qU a b c d=3:=by
 unfold qU
 match hl:Qk a b c d,h,h' with
 | [x],h,h'=>exact absurd ((jik.1 h).trans (jik.1 h').symm) hne
 | x::y::l,_,_=>simp
theorem jeO {a b c d:Pn} (hl:a.2=b.2) (hab:a.1≠b.1) (hcd:c≠d) (hn:¬((a=c∧b=d)∨(a=d∧b=c))) (h:ve a b c d=true) :
  ¬(Q8 (2*c.1) (2*c.2) (2*d.1) (2*d.2) (a.1+b.1) (a.2+b.2) =0∧(min (2*c.1) (2*d.1)≤a.1+b.1∧a.1+b.1≤max (2*c.1) (2*d.1))∧min (2*c.2) (2*d.2)≤a.2+b.2∧a.2+b.2≤max (2*c.2) (2*d.2)) :=by
 rintro⟨ht,hx,hy⟩
 have hap:kG a b c d=false:=by
  rw [kG]
  simp only [Bool.or_eq_false_iff,decide_eq_false_iff_not]
  omega
 have k3:qU a b c d≠3:=fun k=>by
  unfold ve at h
  rw [hap,k] at h
  simp [hn] at h
 have k2:qU a b c d≠2:=fun k=>by
  unfold ve at h
  rw [hap,k] at h
  simp at h
 have k1:qU a b c d=1→a=c∨a=d∨b=c∨b=d:=fun k=>by
  unfold ve at h
  rw [hap,k] at h
  simp only [jjg,if_false,if_neg (show¬((1:Int) =2) by omega),if_true,ji2,jjG,decide_eq_false_iff_not,ne_eq,Decidable.not_not] at h
  rcases h with((h | h) | h) | h
  ·exact .inl h
  ·exact .inr (.inl h)
  ·exact .inr (.inr (.inl h))
  ·exact .inr (.inr (.inr h))
 obtain ⟨a1,a2⟩ :=a
 obtain ⟨b1,b2⟩ :=b
 obtain ⟨c1,c2⟩ :=c
 obtain ⟨d1,d2⟩ :=d
 simp only [Prod.mk.injEq,ne_eq,not_and] at*
 subst hl
 by_cases hlev:c2=d2
 ·
  subst hlev
  have hyy:c2=a2:=by omega
  subst hyy
  have hcd':c1≠d1:=fun e=>hcd e rfl
  have on1:∀x:Int,(min a1 b1≤x∧x≤max a1 b1)→(min c1 d1≤x∧x≤max c1 d1)→kk (a1,c2) (b1,c2) (c1,c2) (d1,c2) (x,c2) =true:=fun x h1 h2=>by
   rw [kk,jig,KE,KE]
   simp only [tn,Q8]
   refine⟨⟨by simp,h1,by omega⟩,by simp,h2,by omega⟩
  have mem1:∀x:Int,(x=a1∨x=b1∨x=c1∨x=d1)→(min a1 b1≤x∧x≤max a1 b1)→(min c1 d1≤x∧x≤max c1 d1)→(x,c2)∈Qk (a1,c2) (b1,c2) (c1,c2) (d1,c2) :=fun x h0 h1 h2=>
   qL.2 ⟨by rcases h0 with rfl | rfl | rfl | rfl<;>simp,on1 x h1 h2⟩
  refine k3 (GW (q:= (max (min a1 b1) (min c1 d1),c2)) (r:= (min (max a1 b1) (max c1 d1),c2)) (mem1 _ Om Om Om) (mem1 _ Om Om Om) fun e=> ?_)
  simp only [Prod.mk.injEq] at e
  omega
 ·by_cases hc:c2=a2
  ·
   have e1:Q8 (2*c1) (2*c2) (2*d1) (2*d2) (a1+b1) (a2+a2) = -2* ((d2- c2) * (a1+b1- 2*c1)) :=by subst hc;simp only [Q8];grind
   have e2: (d2- c2) * (a1+b1- 2*c1) =0:=by omega
   have e3:a1+b1=2*c1:=by rcases SK e2 with k | k<;>omega
   subst hc
   have m: (c1,c2)∈Qk (a1,c2) (b1,c2) (c1,c2) (d1,d2) :=qL.2 ⟨by simp,by
    rw [kk,jig,KE,KE]
    simp only [tn,Q8]
    refine⟨⟨by simp,by omega,by omega⟩,by simp,by omega,by omega⟩⟩
   rcases xy m with k | k
   ·exact absurd (k1 k) Om
   ·exact k3 k
  ·by_cases hd:d2=a2
   ·have e1:Q8 (2*c1) (2*c2) (2*d1) (2*d2) (a1+b1) (a2+a2) =2* ((d2- c2) * (2*d1- (a1+b1))) :=by subst hd;simp only [Q8];grind
    have e2: (d2- c2) * (2*d1- (a1+b1)) =0:=by omega
    have e3:a1+b1=2*d1:=by rcases SK e2 with k | k<;>omega
    subst hd
    have m: (d1,d2)∈Qk (a1,d2) (b1,d2) (c1,c2) (d1,d2) :=qL.2 ⟨by simp,by
     rw [kk,jig,KE,KE]
     simp only [tn,Q8]
     refine⟨⟨by simp,by omega,by omega⟩,by grind,by omega,by omega⟩⟩
    rcases xy m with k | k
    ·exact absurd (k1 k) Om
    ·exact k3 k
   ·
    by_cases he: (Qk (a1,a2) (b1,a2) (c1,c2) (d1,d2)).length=0
    ·have hs:qf (a1,a2) (b1,a2) (c1,c2) (d1,d2) =true:=by
      rw [K4]
      have s1:=ZK (a:=b1- a1) (b:=c2- a2) (p:=tn (a1,a2) (b1,a2) (c1,c2)) (by simp only [tn,Q8];grind)
      have s2:=ZK (a:=b1- a1) (b:=d2- a2) (p:=tn (a1,a2) (b1,a2) (d1,d2)) (by simp only [tn,Q8];grind)
      have s3:=ZK (a:=d2- c2) (b:=b1- a1) (p:=tn (c1,c2) (d1,d2) (a1,a2) - tn (c1,c2) (d1,d2) (b1,a2)) (by simp only [tn,Q8];grind)
      have s4:2* (tn (c1,c2) (d1,d2) (a1,a2) +tn (c1,c2) (d1,d2) (b1,a2)) =0:=by rw [←ht];simp only [tn,Q8];grind
      clear k1 k2 k3 h hap ht he hn hcd
      generalize tn (a1,a2) (b1,a2) (c1,c2) =T1 at*
      generalize tn (a1,a2) (b1,a2) (d1,d2) =T2 at*
      generalize tn (c1,c2) (d1,d2) (a1,a2) =T3 at*
      generalize tn (c1,c2) (d1,d2) (b1,a2) =T4 at*
      rcases Int.lt_or_gt_of_ne hab with g | g<;>rcases(show c2<a2∧a2<d2∨d2<a2∧a2<c2 by omega) with g' | g'
      ·have t1:T1<0:=by omega
       have t2:0<T2:=by omega
       exact⟨.inl ⟨t1,t2⟩,by omega⟩
      ·have t1:0<T1:=by omega
       have t2:T2<0:=by omega
       exact⟨.inr ⟨t1,t2⟩,by omega⟩
      ·have t1:0<T1:=by omega
       have t2:T2<0:=by omega
       exact⟨.inr ⟨t1,t2⟩,by omega⟩
      ·have t1:T1<0:=by omega
       have t2:0<T2:=by omega
       exact⟨.inl ⟨t1,t2⟩,by omega⟩
     refine k2 ?_
     unfold qU
     rw [if_pos he,if_pos hs]
    ·have:∃q,q∈Qk (a1,a2) (b1,a2) (c1,c2) (d1,d2) :=by
      cases hh:Qk (a1,a2) (b1,a2) (c1,c2) (d1,d2) with
      | nil=>rw [hh] at he;exact absurd rfl he
      | cons x l=>exact⟨x,by simp⟩
     obtain ⟨q,hq⟩ :=this
     rcases xy hq with k | k
     ·exact absurd (k1 k) Om
     ·exact k3 k
theorem D2 (f:Int→Int→Int) {xs:List (Int×Int)} :∀k,k≤xs.length→sm (fun e:Leg=>f e.ax e.ay- f e.bx e.b_y) (qC xs k) =f (px xs 0) (py xs 0) - f (px xs (k % xs.length)) (py xs (k % xs.length))
 | 0,_=>by simp [qC,sm]
 | k+1,h=>by
  have ih:=D2 f (xs:=xs) k Om
  rw [jjx (show k<xs.length by omega)] at ih
  rw [KA]
  split
  ·rename_i he
   rw [ih]
   unfold nx at he
   rw [he.1,he.2]
  ·rw [Kn,ih]
   simp only [sm,nx]
   omega
theorem jcO (f:Int→Int→Int) (xs:List (Int×Int)) :sm (fun e:Leg=>f e.ax e.ay- f e.bx e.b_y) (J0 xs) =0:=by
 rw [J0,D2 f _ (jih _),jj3]
 omega
theorem Cm (f:Int→Int→Int) (rs:List jV) :∀k,sm (fun e:Leg=>f e.ax e.ay- f e.bx e.b_y) (qJ rs k) =0
 | 0=>rfl
 | k+1=>by
  rw [qJ,Kn,Cm f rs k,jcO]
  rfl
structure Fine (es:List Leg) :Prop where
 ok:∀e∈es,qN e
 ne:∀e∈es,lA e≠lB e
 close:∀f:Int→Int→Int,sm (fun e:Leg=>f e.ax e.ay- f e.bx e.b_y) es=0
def I7 (es:List Leg) (p:Leg) :Prop:=p.ay=p.b_y→∀e∈es,Q5 e≠p→¬(Q8 (2*e.ax) (2*e.ay) (2*e.bx) (2*e.b_y) (vC p) (KU p) =0∧(min (2*e.ax) (2*e.bx)≤vC p∧vC p≤max (2*e.ax) (2*e.bx))∧min (2*e.ay) (2*e.b_y)≤KU p∧KU p≤max (2*e.ay) (2*e.b_y))
def Ir (es:List Leg) (p:Leg) :Int:=sm (fun e=>sg e* (if Q5 e=p then 0 else BD p (Q5 e))) es
theorem jc5 {es:List Leg} {p:Leg} (hf:Fine es) (hc:I7 es p) (hp:¬vh (lB p) (lA p)) (hne:lA p≠lB p) :
  kX es p=⟨p,Qe es p,Ir es p+Qe es p,Ir es p⟩ :=by
 have d0:Ir es p=sm (fun e=>if Q5 e=p then 0 else(if p.ay=p.b_y then Qw (ZW (Q2 true e)) (-(KU p)) (vC p) else Qw (Q2 true e) (vC p) (KU p))) es:=by
  refine JW fun e _=> ?_
  split
  ·simp
  ·unfold BD
   split
   ·exact jfl _ _ _
   ·exact jem _ _ _
 unfold kX
 by_cases hl:p.ay=p.b_y
 ·rw [if_pos hl]
  simp only [if_pos hl] at d0
  have hlt:p.ax<p.bx:=by
   unfold vh lA lB at hp
   unfold lA lB at hne
   simp only [ne_eq,Prod.mk.injEq,not_and] at hp hne
   omega
  have key:wy es p- Ir es p=Qe es p:=by
   rw [d0]
   unfold wy
   rw [←yu]
   have e1:sm (fun e:Leg=> (if Q5 e=p then 0 else Qw (Q2 true e) (vC p) (KU p)) - (if Q5 e=p then 0 else Qw (ZW (Q2 true e)) (-(KU p)) (vC p))) es
     =sm (fun e:Leg=> (qu (2*e.ax) (2*e.ay) (vC p) (KU p) - qu (2*e.bx) (2*e.b_y) (vC p) (KU p)) + (if Q5 e=p then sg e else 0)) es:=by
    refine JW fun e he=> ?_
    split
    ·rename_i hn
     have hq1:qu (2*p.ax) (2*p.ay) (vC p) (KU p) =0:=by unfold qu vC;rw [if_neg Om]
     have hq2:qu (2*p.bx) (2*p.b_y) (vC p) (KU p) =1:=by unfold qu vC KU;rw [if_pos Om]
     rcases(Mj hp hne).1 hn with rfl | rfl
     ·rw [CI hp,hq1,hq2];rfl
     ·rw [jdh hp hne]
      simp only [Qn]
      rw [hq1,hq2];rfl
    ·rename_i hn
     have:=jdx (e:=Q2 true e) (hc hl e he hn)
     simp only [Q2,if_true] at this⊢
     rw [this]
     omega
   rw [e1,xM,hf.close fun x y=>qu (2*x) (2*y) (vC p) (KU p)]
   unfold Qe
   omega
  rw [show wy es p=Ir es p+Qe es p by omega,show Ir es p+Qe es p- Qe es p=Ir es p by omega]
 ·rw [if_neg hl]
  simp only [if_neg hl] at d0
  have:Ir es p=wy es p:=d0
  rw [this]
theorem U5 {e:Leg} (hne:lA e≠lB e) :Q5 (Qn e) =Q5 e:=by
 unfold Q5
 rcases U4 (lA e) (lB e) with h | h | h
 ·rw [if_pos (show vh (lB (Qn e)) (lA (Qn e)) from h),if_neg fun k=>kC _ (Vx h k)]
  rfl
 ·exact absurd h hne
 ·rw [if_pos h,if_neg (show¬vh (lB (Qn e)) (lA (Qn e)) from fun k=>kC _ (Vx (show vh (lA e) (lB e) from k) h))]
theorem jeN (e:Leg) :vC (Q5 e) =e.ax+e.bx∧KU (Q5 e) =e.ay+e.b_y∧((Q5 e).ay= (Q5 e).b_y↔e.ay=e.b_y) :=by
 unfold Q5 vC KU
 split
 ·simp only [Qn];omega
 ·exact⟨rfl,rfl,Iff.rfl⟩
theorem jgK {e:Leg} (hne:lA e≠lB e) :lA (Q5 e)≠lB (Q5 e) :=by
 unfold Q5
 split
 ·exact fun h=>hne h.symm
 ·exact hne
theorem yN {es:List Leg} {e:Leg} (h:e∈es) :∃i,i<es.length∧lg es i=e:=by
 obtain ⟨i,hi,rfl⟩ :=ji0 h
 exact⟨i,hi,(Uz hi).symm⟩
theorem jcv {es m:List Leg} {l:List Nt} (hl:l=Qd false es []) (hr:Ed m) (hm:∀q,q∈m↔∃e∈es,q=Q5 e) :l.map (·.e) =QR m:=by
 have ha:x5 l:=by rw [hl];exact wY List.Pairwise.nil
 refine zv (List.pairwise_map.2 ha) (Dq hr) fun q=> ?_
 rw [Zt,hm,jip,hl]
 rw [show(∃a∈Qd false es [],a.e=q)↔_ from wZ]
 simp
def Frag (hot:List Pn) (a b h h':Pn) :Prop:=∃V u u':Int,0<V∧(0≤u∧u≤u'∧u'≤V)∧wu a b h u V∧wu a b h' u' V∧∀k∈hot,k≠h→k≠h'→Mz a b k V u u'
theorem Td {f d lo u v m:Int} (hm:0<m) :zR f d lo (u*m) (v*m)↔zR f d lo u v:=by
 have e1:lo* (v*m) =lo*v*m:=by grind
 have e2:f* (v*m) +u*m*d= (f*v+u*d) *m:=by grind
 have e3: (lo+2) * (v*m) = (lo+2) *v*m:=by grind
 unfold zR
 rw [e1,e2,e3]
 constructor
 ·rintro⟨h1,h2⟩;exact⟨jiS h1 hm,jiP h2 Om⟩
 ·rintro⟨h1,h2⟩;exact⟨jij h1 Om,jiz h2 hm⟩
theorem Ys {a b p:Pn} {u v m:Int} (hm:0<m) :wu a b p (u*m) (v*m)↔wu a b p u v:=by
 unfold wu
 rw [Td hm,Td hm]
theorem Ny {a b k:Pn} {V u u' m:Int} (hm:0<m) (h:Mz a b k V u u') :Mz a b k (V*m) (u*m) (u'*m) :=fun t v hv h1 h2=>by
 refine h t v hv ?_ ?_
 ·have e1:u*m*v=u*v*m:=by grind
  have e2:t* (V*m) =t*V*m:=by grind
  rw [e1,e2] at h1
  exact jiS h1 hm
 ·have e1:u'*m*v=u'*v*m:=by grind
  have e2:t* (V*m) =t*V*m:=by grind
  rw [e1,e2] at h2
  exact jiS h2 hm
theorem Frag.scale {hot:List Pn} {a b h h':Pn} {V u u' m:Int} (hm:0<m) (hV:0<V) (hu:0≤u∧u≤u'∧u'≤V) (h1:wu a b h u V) (h2:wu a b h' u' V) (h3:∀k∈hot,k≠h→k≠h'→Mz a b k V u u') :
  0<V*m∧(0≤u*m∧u*m≤u'*m∧u'*m≤V*m)∧wu a b h (u*m) (V*m)∧wu a b h' (u'*m) (V*m)∧∀k∈hot,k≠h→k≠h'→Mz a b k (V*m) (u*m) (u'*m) :=
 ⟨jiU hV hm,⟨jiF hu.1 Om,jij hu.2.1 Om,jij hu.2.2 Om⟩,(Ys hm).2 h1,(Ys hm).2 h2,fun k a1 a2 a3=>Ny hm (h3 k a1 a2 a3)⟩
theorem CE (a b c d:Pn) (V w w' t:Int) :tn (sc c d w V) (sc c d w' V) (sc a b t V) =4* (w'- w) * (V*tn c d a+t* (tn c d b- tn c d a)) :=by
 simp only [sc,tn,Q8]
 grind
theorem jcE {A B V u u' D p q:Int} (hu:0≤u∧u≤u'∧u'≤V) (hD:0≤D) (hp:p=D* (V*A+u* (B- A))) (hq:q=D* (V*A+u'* (B- A))) (h: (p<0∧0<q)∨(0<p∧q<0)) : (A<0∧0<B)∨(0<A∧B<0) :=by
 have e1:V*A+u* (B- A) = (V- u) *A+u*B:=by grind
 have e2:V*A+u'* (B- A) = (V- u') *A+u'*B:=by grind
 rw [e1] at hp
 rw [e2] at hq
 have s1:=kV hp
 have s2:=kV hq
 have k:¬(0≤A∧0≤B) :=fun ⟨g1,g2⟩ =>by
  have m1:=jiF (show 0≤V- u by omega) g1
  have m2:=jiF hu.1 g2
  have m3:=jiF (show 0≤V- u' by omega) g1
  have m4:=jiF (show 0≤u' by omega) g2
  omega
 have k':¬(A≤0∧B≤0) :=fun ⟨g1,g2⟩ =>by
  have m1:=jjO (show 0≤V- u by omega) g1
  have m2:=jjO hu.1 g2
  have m3:=jjO (show 0≤V- u' by omega) g1
  have m4:=jjO (show 0≤u' by omega) g2
  omega
 omega
theorem NV {a b c d:Pn} {V u u' w w':Int} (hV:0<V) (hu:0≤u∧u≤u'∧u'≤V) (hw:0≤w∧w≤w'∧w'≤V) (hs:qf (sc a b u V) (sc a b u' V) (sc c d w V) (sc c d w' V) =true) :
  qf a b c d=true∧∃t t' v:Int,0<v∧(u*v≤t*V∧t*V≤u'*v)∧(w*v≤t'*V∧t'*V≤w'*v)∧sc a b t v=sc c d t' v:=by
 obtain ⟨h1,h2⟩ :=K4.1 hs
 have hd:=IQ (sc a b u V) (sc a b u' V) (sc c d w V) (sc c d w' V)
 refine⟨K4.2 ⟨?_,?_⟩,?_⟩
 ·exact jcE hw Om (CE c d a b V u u' w) (CE c d a b V u u' w') h1
 ·exact jcE hu Om (CE a b c d V w w' u) (CE a b c d V w w' u') h2
 ·
  have i1:∀q1 q2:Int,(sc a b (u*q2- u'*q1) (V* (q2- q1))) = (q2* (sc a b u V).1- q1* (sc a b u' V).1,q2* (sc a b u V).2- q1* (sc a b u' V).2) :=fun q1 q2=>by
   apply Prod.ext<;> (simp only [sc];grind)
  have i2:∀p1 p2:Int,(sc c d (w'*p1- w*p2) (V* (p1- p2))) = (p1* (sc c d w' V).1- p2* (sc c d w V).1,p1* (sc c d w' V).2- p2* (sc c d w V).2) :=fun p1 p2=>by
   apply Prod.ext<;> (simp only [sc];grind)
  have j1:∀X X' Y Y':Pn,tn Y Y' X'*X.1- tn Y Y' X*X'.1=tn X X' Y*Y'.1- tn X X' Y'*Y.1:=fun X X' Y Y'=>by simp only [tn,Q8];grind
  have j2:∀X X' Y Y':Pn,tn Y Y' X'*X.2- tn Y Y' X*X'.2=tn X X' Y*Y'.2- tn X X' Y'*Y.2:=fun X X' Y Y'=>by simp only [tn,Q8];grind
  have J1:=j1 (sc a b u V) (sc a b u' V) (sc c d w V) (sc c d w' V)
  have J2:=j2 (sc a b u V) (sc a b u' V) (sc c d w V) (sc c d w' V)
  generalize tn (sc a b u V) (sc a b u' V) (sc c d w V) =p1 at*
  generalize tn (sc a b u V) (sc a b u' V) (sc c d w' V) =p2 at*
  generalize tn (sc c d w V) (sc c d w' V) (sc a b u V) =q1 at*
  generalize tn (sc c d w V) (sc c d w' V) (sc a b u' V) =q2 at*
  rcases h2 with⟨g1,g2⟩ |⟨g1,g2⟩
  ·refine⟨u*q2- u'*q1,w'*p1- w*p2,V* (q2- q1),jiU hV Om,?_,?_,?_⟩
   ·have e1:u* (V* (q2- q1)) = (u*q2- u*q1) *V:=by grind
    have e2:u'* (V* (q2- q1)) = (u'*q2- u'*q1) *V:=by grind
    rw [e1,e2]
    have m1:u*q2≤u'*q2:=jij hu.2.1 Om
    have m2:u'*q1≤u*q1:=jjE hu.2.1 Om
    exact⟨jij Om Om,jij Om Om⟩
   ·have e0:q2- q1=p1- p2:=by omega
    rw [e0]
    have e1:w* (V* (p1- p2)) = (w*p1- w*p2) *V:=by grind
    have e2:w'* (V* (p1- p2)) = (w'*p1- w'*p2) *V:=by grind
    rw [e1,e2]
    have m1:w*p1≤w'*p1:=jij hw.2.1 Om
    have m2:w'*p2≤w*p2:=jjE hw.2.1 Om
    exact⟨jij Om Om,jij Om Om⟩
   ·rw [i1,show q2- q1=p1- p2 by omega,i2,J1,J2]
  ·have i1':=i1 (-q1) (-q2)
   have i2':=i2 (-p1) (-p2)
   refine⟨u* -q2- u'* -q1,w'* -p1- w* -p2,V* (-q2- -q1),jiU hV Om,?_,?_,?_⟩
   ·have e1:u* (V* (-q2- -q1)) = (u* -q2- u* -q1) *V:=by grind
    have e2:u'* (V* (-q2- -q1)) = (u'* -q2- u'* -q1) *V:=by grind
    rw [e1,e2]
    have m1:u* -q2≤u'* -q2:=jij hu.2.1 Om
    have m2:u'* -q1≤u* -q1:=jjE hu.2.1 Om
    exact⟨jij Om Om,jij Om Om⟩
   ·have e0: -q2- -q1= -p1- -p2:=by omega
    rw [e0]
    have e1:w* (V* (-p1- -p2)) = (w* -p1- w* -p2) *V:=by grind
    have e2:w'* (V* (-p1- -p2)) = (w'* -p1- w'* -p2) *V:=by grind
    rw [e1,e2]
    have m1:w* -p1≤w'* -p1:=jij hw.2.1 Om
    have m2:w'* -p2≤w* -p2:=jjE hw.2.1 Om
    exact⟨jij Om Om,jij Om Om⟩
   ·have n:∀x y:Int,-x*y= -(x*y) :=fun x y=>Int.neg_mul ..
    rw [i1 (-q1) (-q2),show-q2- -q1= -p1- -p2 by omega,i2 (-p1) (-p2)]
    simp only [n]
    apply Prod.ext
    ·simp only;omega
    ·simp only;omega
def Rd (hot:List Pn) (a b c d:Pn) :Prop:=qf a b c d=true→∃k∈hot,∀t t' v:Int,0<v→sc a b t v=sc c d t' v→wu a b k t v
theorem Ff {h h' g g':Pn} (hs:qf h h' g g'=true) :h≠h'∧g≠g'∧g≠h∧g≠h'∧g'≠h∧g'≠h':=by
 obtain ⟨h1,h2⟩ :=K4.1 hs
 have z1:∀p q:Pn,tn p p q=0:=fun p q=>by simp only [tn,Q8];grind
 have z2:∀p q:Pn,tn p q p=0:=fun p q=>by simp only [tn,Q8];grind
 have z3:∀p q:Pn,tn p q q=0:=fun p q=>by simp only [tn,Q8];grind
 refine⟨?_,?_,?_,?_,?_,?_⟩ <;>rintro rfl<;>simp [z1,z2,z3] at h1 h2
theorem Na {hot:List Pn} {a b c d h h' g g':Pn} (F:Frag hot a b h h') (G:Frag hot c d g g') (mh:h∈hot) (mh':h'∈hot) (mg:g∈hot) (mg':g'∈hot) (hc:Rd hot a b c d) :qf h h' g g'≠true:=fun hs=>by
 obtain ⟨n1,n2,n3,n4,n5,n6⟩ :=Ff hs
 obtain ⟨V,u,u',hV,hu,i1,i2,i3⟩ :=F
 obtain ⟨W,w,w',hW,hw,j1,j2,j3⟩ :=G
 obtain ⟨pV,qu,k1,k2,k3⟩ :=Frag.scale hW hV hu i1 i2 i3
 obtain ⟨pW,qw,l1,l2,l3⟩ :=Frag.scale hV hW hw j1 j2 j3
 rw [jiV W V] at pW qw l1 l2 l3
 generalize V*W=U at*
 generalize u*W=x at*
 generalize u'*W=x' at*
 generalize w*V=y at*
 generalize w'*V=y' at*
 refine jcx pV qu qw k1 k2 l1 l2 n1 n2 (k3 g mg n3 n4) (k3 g' mg' n5 n6) (l3 h mh (Ne.symm n3) (Ne.symm n5)) (l3 h' mh' (Ne.symm n4) (Ne.symm n6)) ?_ hs
 intro hss
 obtain ⟨s1,t,t',v,hv,s2,s3,s4⟩ :=NV pV qu qw hss
 obtain ⟨k,mk,hk⟩ :=hc s1
 have p1:=hk t t' v hv s4
 have p2:wu c d k t' v:=by rw [Vd,←s4];exact Vd.1 p1
 by_cases e1:k=g
 ·subst e1;exact k3 k mk n3 n4 t v hv s2.1 s2.2 p1
 ·by_cases e2:k=g'
  ·subst e2;exact k3 k mk n5 n6 t v hv s2.1 s2.2 p1
  ·exact l3 k mk e1 e2 t' v hv s3.1 s3.2 p2
theorem Oi {s x:Sp} {u v:Int} (hs:0<s.ld) (hx:0<x.ld) (hv:0<v) (h:Y7 x s=false) (hl:lowOk x u v) :lowOk s u v:=by
 have hns:¬(x.ln*s.ld<s.ln*x.ld∨(x.ln*s.ld=s.ln*x.ld∧x.lc=true∧s.lc=false)) :=fun h'=>by
  have:=Gc.2 h'
  rw [h] at this
  cases this
 have hle:s.ln*x.ld≤x.ln*s.ld:=jjr.1 fun h'=>hns (.inl h')
 by_cases g:x.ln*v<u*x.ld
 ·exact .inl (KS hx hs hv hle g)
 ·obtain ⟨g1,g2⟩ :=hl.resolve_left g
  by_cases k:s.ln*x.ld<x.ln*s.ld
  ·exact .inl (wd hx hs hv k Om)
  ·have l1:=vq (a:=s.ln) (b:=s.ld) (c:=x.ln) (d:=x.ld) (e:=u) (f:=v) hx hs hv Om Om
   have l2:=vq (a:=u) (b:=v) (c:=x.ln) (d:=x.ld) (e:=s.ln) (f:=s.ld) hx hv hs Om Om
   refine .inr ⟨by omega,?_⟩
   cases hc:s.lc with
   | true=>rfl
   | false=>exact absurd (.inr ⟨by omega,g2,hc⟩) hns
theorem GO {s:Sp} {u v u' v':Int} (hs:0<s.hd) (hv:0<v) (hv':0<v') (hle:u*v'≤u'*v) (h:highOk s u' v') :highOk s u v:=by
 rcases h with h |⟨h,hc⟩
 ·exact .inl (KS hv' hv hs hle h)
 ·by_cases k:u*v'<u'*v
  ·exact .inl (wd hv' hv hs k Om)
  ·have l1:=vq (a:=u) (b:=v) (c:=u') (d:=v') (e:=s.hn) (f:=s.hd) hv' hv hs Om Om
   have l2:=vq (a:=s.hn) (b:=s.hd) (c:=u') (d:=v') (e:=u) (f:=v) hv' hs hv Om Om
   exact .inr ⟨by omega,hc⟩
theorem jcZ {f' d' k u v:Int} (hv:0<v) (h0:0≤u) (h1:u≤v) (h:zR (2*f') (2* (d'- f')) (2*k- 1) u v) :min f' d'- 1≤k∧k≤max f' d'+1:=by
 obtain ⟨g1,g2⟩ :=h
 have e:2*f'*v+u* (2* (d'- f')) =2* (f'* (v- u) +d'*u) :=by grind
 rw [e] at g1 g2
 have a1:min f' d'* (v- u)≤f'* (v- u) :=jij Om Om
 have a2:min f' d'*u≤d'*u:=jij Om h0
 have a3:f'* (v- u)≤max f' d'* (v- u) :=jij Om Om
 have a4:d'*u≤max f' d'*u:=jij Om h0
 have b1:min f' d'* (v- u) +min f' d'*u=min f' d'*v:=by grind
 have b2:max f' d'* (v- u) +max f' d'*u=max f' d'*v:=by grind
 have c1: (2*k- 1) *v≤(2*max f' d') *v:=by
  have:2*max f' d'*v=2* (max f' d'*v) :=by grind
  omega
 have c2: (2*min f' d') *v< (2*k- 1+2) *v:=by
  have:2*min f' d'*v=2* (min f' d'*v) :=by grind
  omega
 have d1:=jiS c1 hv
 have d2:=jiP c2 Om
 omega
theorem SP {a b k:Pn} {u v:Int} (hv:0<v) (h0:0≤u) (h1:u≤v) (h:wu a b k u v) :KJ a b k=true:=by
 have x:=jcZ hv h0 h1 h.1
 have y:=jcZ hv h0 h1 h.2
 exact yW (Xd x.1 x.2) (zC y.1 y.2) (Mf hv h0 h1 h)
theorem U2 {a b p:Pn} (h:Ve a b p=true) :∃u v:Int,0<v∧yr (JZ a b p) u v∧0≤u∧u≤v∧wu a b p u v:=by
 have hn:vP (JZ a b p) =true:=by have h':=h;unfold Ve Xr at h';simp only [jig] at h';exact h'.2
 obtain ⟨u,v,hv,hm⟩ :=Mi (KY a b p) hn
 have:= (KZ hv h).1 hm
 exact⟨u,v,hv,hm,this.1.1,this.1.2,this.2⟩
theorem jeu {hot l1 l2:List Pn} {a b h h':Pn} (hnd:hot.Nodup) (hp:qD a b hot=l1++h::h'::l2) :Frag hot a b h h':=by
 have hs:Uy (KN a b) (qD a b hot) :=by rw [wK];exact Zm a b hot
 have hd:=ut (a:=a) (b:=b) hnd
 have hi:∀p∈qD a b hot,Ve a b p=true:=fun p hp=>ZG (Ku.1 hp).2
 have mh:h∈qD a b hot:=by rw [hp];simp
 have mh':h'∈qD a b hot:=by rw [hp];simp
 have hmem:∀k,k∈hot→KJ a b k=true→k≠h→k≠h'→k∈l1∨k∈l2:=fun k k1 k2 k3 k4=>by
  have:=Ku.2 ⟨k1,k2⟩
  rw [hp] at this
  simp only [jiv,jir] at this
  rcases this with h1 | rfl | rfl | h1
  ·exact .inl h1
  ·exact absurd rfl k3
  ·exact absurd rfl k4
  ·exact .inr h1
 rw [hp] at hs hd
 have hs1:=jjN.1 hs
 have hs2:=jiR.1 hs1.2.1
 have hs3:=jiR.1 hs2.2
 have hne:h≠h':=fun e=>by
  have:= (List.nodup_append.1 hd).2.1
  rw [e] at this
  exact(jjF.1 this).1 (by simp)
 obtain ⟨u0,v0,p0,m0,a0,b0,c0⟩ :=U2 (hi h mh)
 obtain ⟨u1,v1,p1,m1,a1,b1,c1⟩ :=U2 (hi h' mh')
 have pos:=fun p=>KY a b p
 have hle:u0*v1≤u1*v0:=jjr.1 fun hlt=>by
  have lo:lowOk (JZ a b h) u1 v1:=Oi (pos h).1 (pos h').1 p1 (hs2.1 h' (by simp)) m1.1
  have hi':highOk (JZ a b h) u1 v1:=GO (pos h).2 p1 p0 Om m0.2
  exact hne (Uu p1 ((KZ p1 (hi h mh)).1 ⟨lo,hi'⟩).2 c1)
 refine⟨v0*v1,u0*v1,u1*v0,jiU p0 p1,⟨jiF a0 Om,hle,?_⟩,?_,?_,?_⟩
 ·rw [jiV v0 v1]
  exact jij b1 Om
 ·exact(Ys p1).2 c0
 ·rw [jiV v0 v1]
  exact(Ys p0).2 c1
 ·intro k k1 k2 k3 t v hv t1 t2 hin
  have t1':u0*v≤t*v0:=by
   have e1:u0*v1*v=u0*v*v1:=by grind
   have e2:t* (v0*v1) =t*v0*v1:=by grind
   rw [e1,e2] at t1
   exact jiS t1 p1
  have t2':t*v1≤u1*v:=by
   have e1:u1*v0*v=u1*v*v0:=by grind
   have e2:t* (v0*v1) =t*v1*v0:=by grind
   rw [e1,e2] at t2
   exact jiS t2 p0
  have g0:0≤t:=by
   refine jjr.1 fun hn=> ?_
   have:=jiF a0 (show 0≤v by omega)
   have:=jjh hn p0
   omega
  have g1:t≤v:=by
   have e1:u1*v≤v1*v:=jij b1 Om
   have e2:t*v1≤v*v1:=by rw [jiV v v1];omega
   exact jiS e2 p1
  have hw:=SP hv g0 g1 hin
  have hik:=ZG hw
  have mk:= (KZ hv hik).2 ⟨⟨g0,g1⟩,hin⟩
  rcases hmem k k1 hw k2 k3 with c | c
  ·have lo:lowOk (JZ a b k) u0 v0:=Oi (pos k).1 (pos h).1 p0 (hs1.2.2 k c h (by simp)) m0.1
   have hi':highOk (JZ a b k) u0 v0:=GO (pos k).2 p0 hv t1' mk.2
   exact k2 (Uu p0 ((KZ p0 hik).1 ⟨lo,hi'⟩).2 c0)
  ·have lo:lowOk (JZ a b h') t v:=Oi (pos h').1 (pos k).1 hv (hs3.1 k c) mk.1
   have hi':highOk (JZ a b h') t v:=GO (pos h').2 hv p1 t2' m1.2
   exact k3 (Uu hv ((KZ hv (hi h' mh')).1 ⟨lo,hi'⟩).2 hin).symm
end Go.Proofs.YtpncbbcmoiiipaaGreat
