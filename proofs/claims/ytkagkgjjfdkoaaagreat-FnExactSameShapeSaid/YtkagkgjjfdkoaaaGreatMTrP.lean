import Derived.Test.YtkagkgjjfdkoaaaGreatMNetQ
import Derived.Test.YtkagkgjjfdkoaaaGreatMStabP
set_option linter.unusedVariables false
set_option linter.unusedSimpArgs false
namespace Go.Proofs.YtkagkgjjfdkoaaaGreat
open Go Go.RowKit
def Ux (o a:Pn) :Int:=if a.2>o.2∨(a.2=o.2∧a.1>o.1) then 0 else 1
def Ll (o a b:Pn) :Int:=if Ux o a≠Ux o b then Wh (Ux o a- Ux o b) else-Wh (tn o a b)
def Xi (v f p q:Pn) :Bool:=if decide (Ll v p f<0)≠decide (Ll v q f<0) then decide (Ll v p f<0) else decide (0<Ll v p q)
def Cf (o b p:Pn) :Int:=if tn o b p<0 then 0 else if tn o b p=0 then 1 else 2
def cwF (o b p q:Pn) :Bool:=if Cf o b p≠Cf o b q then decide (Cf o b p<Cf o b q) else decide (tn o p q<0)
def uo (v p q:Pn) :Prop:=tn v p q=0∧0< (p.1- v.1) * (q.1- v.1) + (p.2- v.2) * (q.2- v.2)
theorem Cn (o a b:Pn) :Ll o a b<0↔Ux o a<Ux o b∨(Ux o a=Ux o b∧0<tn o a b) :=by
 have h1:=W9 (Ux o a- Ux o b)
 have h2:=W9 (tn o a b)
 unfold Ll
 split<;>omega
theorem Zd (o a b:Pn) :0<Ll o a b↔Ux o b<Ux o a∨(Ux o a=Ux o b∧tn o a b<0) :=by
 have h1:=W9 (Ux o a- Ux o b)
 have h2:=W9 (tn o a b)
 unfold Ll
 split<;>omega
def M7 (X:Pn) :Prop:=0<X.2∨(X.2=0∧0<X.1)
def Yd (X Y:Pn) :Int:=X.1*Y.2- X.2*Y.1
theorem GT {a b p:Int} (h:p=a*b) : (0<a∧0<b∧0<p)∨(0<a∧b<0∧p<0)∨(a<0∧0<b∧p<0)∨(a<0∧b<0∧0<p)∨(a=0∧p=0)∨(b=0∧p=0) :=zE h
theorem U7 {X Y Z:Pn} (hX:M7 X) (hY:M7 Y) (hZ:M7 Z) (h1:0≤Yd X Y) (h2:0≤Yd Y Z) :0≤Yd X Z∧((0<Yd X Y∨0<Yd Y Z)→0<Yd X Z) :=by
 have id1:Y.2*Yd X Z=X.2*Yd Y Z+Z.2*Yd X Y:=by unfold Yd;grind
 have e1:Yd X Y=X.1*Y.2- X.2*Y.1:=rfl
 have e2:Yd Y Z=Y.1*Z.2- Y.2*Z.1:=rfl
 have e3:Yd X Z=X.1*Z.2- X.2*Z.1:=rfl
 have x0:0≤X.2:=by unfold M7 at hX;omega
 have z0:0≤Z.2:=by unfold M7 at hZ;omega
 by_cases hy:0<Y.2
 ·have b1:=GT (a:=Y.2) (b:=Yd X Z) rfl
  have b2:=jfl x0 h2
  have b3:=jfl z0 h1
  have hz:0<Z.2:=by
   refine Int.not_le.1 fun hz=> ?_
   have z1:Z.2=0:=by omega
   have z2:0<Z.1:=by unfold M7 at hZ;omega
   have:=jfw hy z2
   rw [z1,Int.mul_zero] at e2
   omega
  refine⟨by omega,fun h=> ?_⟩
  have c1:0<Yd X Y∨0<X.2:=by
   by_cases hx:0<X.2
   ·exact .inr hx
   ·have x1:X.2=0:=by omega
    have x2:0<X.1:=by unfold M7 at hX;omega
    have:=jfw x2 hy
    rw [x1,jfO] at e1
    exact .inl (by omega)
  have c2:0<X.2*Yd Y Z+Z.2*Yd X Y:=by
   by_cases k:0<Yd X Y
   ·have:=jfw hz k;omega
   ·have:=jfw (c1.resolve_left k) (h.resolve_left k);omega
  omega
 ·have y1:Y.2=0:=by unfold M7 at hY;omega
  have y2:0<Y.1:=by unfold M7 at hY;omega
  rw [y1,Int.mul_zero] at e1
  rw [y1,jfO] at e2
  have m1:=GT (a:=X.2) (b:=Y.1) rfl
  have x1:X.2=0:=by omega
  have x2:0<X.1:=by unfold M7 at hX;omega
  rw [x1,jfO] at e3
  have m2:=GT (a:=X.1) (b:=Z.2) rfl
  have m3:=GT (a:=Y.1) (b:=Z.2) rfl
  rw [x1,jfO] at e1
  exact⟨by omega,fun h=>by omega⟩
theorem YA (X Y:Pn) :Yd Y X= -Yd X Y:=by unfold Yd;grind
theorem zl {v p:Pn} (h:p≠v) :∃X:Pn,M7 X∧((Ux v p=0∧X= (p.1- v.1,p.2- v.2))∨(Ux v p=1∧X= (v.1- p.1,v.2- p.2))) :=by
 by_cases k:p.2>v.2∨(p.2=v.2∧p.1>v.1)
 ·refine⟨(p.1- v.1,p.2- v.2),?_, .inl ⟨if_pos k,J⟩⟩
  unfold M7
  simp only
  omega
 ·refine⟨(v.1- p.1,v.2- p.2),?_, .inr ⟨if_neg k,J⟩⟩
  have:¬(p.1=v.1∧p.2=v.2) :=fun e=>h (Prod.ext e.1 e.2)
  unfold M7
  simp only
  omega
theorem jcq {X Y:Pn} (hX:M7 X) (hY:M7 Y) (h:Yd X Y=0) :0<X.1*Y.1+X.2*Y.2:=by
 have e1:Yd X Y=X.1*Y.2- X.2*Y.1:=rfl
 have a1:=GT (a:=X.1) (b:=Y.2) rfl
 have a2:=GT (a:=X.2) (b:=Y.1) rfl
 have a3:=GT (a:=X.1) (b:=Y.1) rfl
 have a4:=GT (a:=X.2) (b:=Y.2) rfl
 unfold M7 at hX hY
 generalize X.1*Y.2=p1 at*
 generalize X.2*Y.1=p2 at*
 generalize X.1*Y.1=p3 at*
 generalize X.2*Y.2=p4 at*
 omega
structure Tri (a b c:Int) :Prop where
 t1:0≤a→0≤c→0≤b∧((0<a∨0<c)→0<b)
 t2:0≤b→0≤-c→0≤a∧((0<b∨0< -c)→0<a)
 t3:0≤-a→0≤b→0≤c∧((0< -a∨0<b)→0<c)
 t4:0≤c→0≤-b→0≤-a∧((0<c∨0< -b)→0< -a)
 t5:0≤-b→0≤a→0≤-c∧((0< -b∨0<a)→0< -c)
 t6:0≤-c→0≤-a→0≤-b∧((0< -c∨0< -a)→0< -b)
theorem jaT {F P Q:Pn} (hF:M7 F) (hP:M7 P) (hQ:M7 Q) :Tri (Yd F P) (Yd F Q) (Yd P Q) :=by
 have f1:=YA F P
 have f2:=YA F Q
 have f3:=YA P Q
 have u1:=U7 hF hP hQ
 have u2:=U7 hF hQ hP
 have u3:=U7 hP hF hQ
 have u4:=U7 hP hQ hF
 have u5:=U7 hQ hF hP
 have u6:=U7 hQ hP hF
 rw [f3] at u2
 rw [f1] at u3
 rw [f1,f2] at u4
 rw [f2,f3] at u5
 rw [f1,f2,f3] at u6
 exact⟨u1,u2,u3,u4,u5,u6⟩
theorem jdH (v p q:Pn) :tn v p q=Yd (p.1- v.1,p.2- v.2) (q.1- v.1,q.2- v.2) :=by simp only [tn,Kd,Yd]
theorem CS (a b c d e f:Int) :Yd (a- b,c- d) (e,f) = -Yd (b- a,d- c) (e,f) :=by unfold Yd;grind
theorem CT (a b c d e f:Int) :Yd (e,f) (a- b,c- d) = -Yd (e,f) (b- a,d- c) :=by unfold Yd;grind
theorem WV {v p q X Y:Pn} (hX: (Ux v p=0∧X= (p.1- v.1,p.2- v.2))∨(Ux v p=1∧X= (v.1- p.1,v.2- p.2))) (hY: (Ux v q=0∧Y= (q.1- v.1,q.2- v.2))∨(Ux v q=1∧Y= (v.1- q.1,v.2- q.2))) :
  (Ux v p=Ux v q∧tn v p q=Yd X Y)∨(Ux v p≠Ux v q∧tn v p q= -Yd X Y) :=by
 rw [jdH]
 rcases hX with⟨h1,rfl⟩ |⟨h1,rfl⟩ <;>rcases hY with⟨h2,rfl⟩ |⟨h2,rfl⟩
 ·exact .inl ⟨by omega,rfl⟩
 ·exact .inr ⟨by omega,by rw [CT]⟩
 ·exact .inr ⟨by omega,by rw [CS]⟩
 ·exact .inl ⟨by omega,by rw [CS,CT];omega⟩
theorem xF {v p q X Y:Pn} (hX:M7 X) (hY:M7 Y) (h1: (Ux v p=0∧X= (p.1- v.1,p.2- v.2))∨(Ux v p=1∧X= (v.1- p.1,v.2- p.2))) (h2: (Ux v q=0∧Y= (q.1- v.1,q.2- v.2))∨(Ux v q=1∧Y= (v.1- q.1,v.2- q.2))) (h:¬uo v p q) :¬(Ux v p=Ux v q∧Yd X Y=0) :=fun ⟨k1,k2⟩ =>by
 have hs:=jcq hX hY k2
 have hd:=WV h1 h2
 refine h ⟨by omega,?_⟩
 rcases h1 with⟨h1,rfl⟩ |⟨h1,rfl⟩ <;>rcases h2 with⟨h2,rfl⟩ |⟨h2,rfl⟩
 ·exact hs
 ·omega
 ·omega
 ·simp only at hs
  have e1: (v.1- p.1) * (v.1- q.1) = (p.1- v.1) * (q.1- v.1) :=by grind
  have e2: (v.2- p.2) * (v.2- q.2) = (p.2- v.2) * (q.2- v.2) :=by grind
  rw [e1,e2] at hs
  exact hs
theorem yR (o a:Pn) :Ux o a=0∨Ux o a=1:=by unfold Ux;split<;>simp
theorem Xj (v f p q:Pn) :Xi v f p q=true↔((Ll v p f<0∧¬Ll v q f<0)∨((Ll v p f<0↔Ll v q f<0)∧0<Ll v p q)) :=by
 unfold Xi
 by_cases h1:Ll v p f<0<;>by_cases h2:Ll v q f<0<;>simp [h1,h2]
theorem jbm (o b p q:Pn) :cwF o b p q=true↔(Cf o b p<Cf o b q∨(Cf o b p=Cf o b q∧tn o p q<0)) :=by
 unfold cwF
 split
 ·rw [decide_eq_true_iff];omega
 ·rw [decide_eq_true_iff];omega
set_option maxHeartbeats 4000000 in
theorem jbn {g1 g2 g3 a b c z4 z5 z3:Int} (hT:Tri a b c) (b1:g1=0∨g1=1) (b2:g2=0∨g2=1) (b3:g3=0∨g3=1)
  (d4: (g1=g2∧z4=a)∨(g1≠g2∧z4= -a)) (d5: (g1=g3∧z5=b)∨(g1≠g3∧z5= -b)) (d3: (g2=g3∧z3=c)∨(g2≠g3∧z3= -c))
  (n1:¬(g2=g1∧a=0)) (n2:¬(g3=g1∧b=0)) (n3:¬(g2=g3∧c=0)) :
  ((if z4<0 then(0:Int) else if z4=0 then 1 else 2) < (if z5<0 then 0 else if z5=0 then 1 else 2)∨(if z4<0 then(0:Int) else if z4=0 then 1 else 2) = (if z5<0 then 0 else if z5=0 then 1 else 2)∧z3<0)↔
   ((g2<g1∨(g2=g1∧0< -z4))∧¬(g3<g1∨(g3=g1∧0< -z5)))∨(((g2<g1∨(g2=g1∧0< -z4))↔(g3<g1∨(g3=g1∧0< -z5)))∧(g3<g2∨(g2=g3∧z3<0))) :=by
 have e4:z4=if g1=g2 then a else-a:=by split<;>omega
 have e5:z5=if g1=g3 then b else-b:=by split<;>omega
 have e3:z3=if g2=g3 then c else-c:=by split<;>omega
 clear d4 d5 d3
 rcases jfA a 0 with c1 | c1 | c1<;>rcases jfA b 0 with c2 | c2 | c2<;>rcases jfA c 0 with c3 | c3 | c3<;>
  first
  | exact absurd (hT.t1 (by omega) (by omega)).1 (by omega)
  | exact absurd ((hT.t1 (by omega) (by omega)).2 (by omega)) (by omega)
  | exact absurd (hT.t2 (by omega) (by omega)).1 (by omega)
  | exact absurd ((hT.t2 (by omega) (by omega)).2 (by omega)) (by omega)
  | exact absurd (hT.t3 (by omega) (by omega)).1 (by omega)
  | exact absurd ((hT.t3 (by omega) (by omega)).2 (by omega)) (by omega)
  | exact absurd (hT.t4 (by omega) (by omega)).1 (by omega)
  | exact absurd ((hT.t4 (by omega) (by omega)).2 (by omega)) (by omega)
  | exact absurd (hT.t5 (by omega) (by omega)).1 (by omega)
  | exact absurd ((hT.t5 (by omega) (by omega)).2 (by omega)) (by omega)
  | exact absurd (hT.t6 (by omega) (by omega)).1 (by omega)
  | exact absurd ((hT.t6 (by omega) (by omega)).2 (by omega)) (by omega)
  | (clear hT;rcases b1 with rfl | rfl<;>rcases b2 with rfl | rfl<;>rcases b3 with rfl | rfl<;>simp at e4 e5 e3 n1 n2 n3<;>subst e4 e5 e3<;> (repeat' split) <;>omega)
theorem jc5 {v f p q:Pn} (hf:f≠v) (hp:p≠v) (hq:q≠v) (h1:¬uo v p f) (h2:¬uo v q f) (h3:¬uo v p q) :cwF v f p q=Xi v f p q:=by
 obtain ⟨F,uF,kF⟩ :=zl hf
 obtain ⟨P,uP,kP⟩ :=zl hp
 obtain ⟨Q,uQ,kQ⟩ :=zl hq
 have n1:=xF uP uF kP kF h1
 have n2:=xF uQ uF kQ kF h2
 have n3:=xF uP uQ kP kQ h3
 have f1:tn v p f= -tn v f p:=by simp only [tn,Kd];grind
 have f2:tn v q f= -tn v f q:=by simp only [tn,Kd];grind
 rw [YA F P] at n1
 rw [YA F Q] at n2
 have:=jbn (jaT uF uP uQ) (yR v f) (yR v p) (yR v q) (WV kF kP) (WV kF kQ) (WV kP kQ) (fun h=>n1 ⟨h.1,by omega⟩) (fun h=>n2 ⟨h.1,by omega⟩) n3
 rw [jfo,jbm,Xj,Cn,Cn,Zd,f1,f2]
 exact this
theorem Lb (v p q:Pn) :tn v q p= -tn v p q:=by simp only [tn,Kd];grind
theorem jaB {v f p q:Pn} (h:Xi v f p q=true) :Xi v f q p=false:=by
 rw [Bool.eq_false_iff]
 intro h'
 rw [Xj,Zd] at h h'
 have:=Lb v p q
 omega
theorem Co {v p q r:Pn} (hp:p≠v) (hq:q≠v) (hr:r≠v) (h1:0<Ll v p q) (h2:0<Ll v q r) :0<Ll v p r:=by
 obtain ⟨P,uP,kP⟩ :=zl hp
 obtain ⟨Q,uQ,kQ⟩ :=zl hq
 obtain ⟨R,uR,kR⟩ :=zl hr
 rw [Zd] at*
 have d1:=WV kP kQ
 have d2:=WV kQ kR
 have d3:=WV kP kR
 have b1:=yR v p
 have b2:=yR v q
 have b3:=yR v r
 have T:= (jaT uP uQ uR).t6
 by_cases e:Ux v p=Ux v q∧Ux v q=Ux v r
 ·have t:=T (by omega) (by omega)
  have t2:=t.2 (by omega)
  clear T t
  exact .inr ⟨by omega,by omega⟩
 ·clear T
  exact .inl (by omega)
theorem PR {v f p q r:Pn} (hp:p≠v) (hq:q≠v) (hr:r≠v) (h1:Xi v f p q=true) (h2:Xi v f q r=true) :Xi v f p r=true:=by
 have ht:=Co hp hq hr
 rw [Xj] at*
 rcases h1 with h1 |⟨h1,h1'⟩ <;>rcases h2 with h2 |⟨h2,h2'⟩
 ·omega
 ·exact .inl ⟨h1.1,fun k=>h1.2 (h2.2 k)⟩
 ·exact .inl ⟨h1.2 h2.1,h2.2⟩
 ·exact .inr ⟨h1.trans h2,ht h1' h2'⟩
theorem PQ {v f p q:Pn} (hp:p≠v) (hq:q≠v) (h:¬uo v p q) :Xi v f p q=true∨Xi v f q p=true:=by
 obtain ⟨P,uP,kP⟩ :=zl hp
 obtain ⟨Q,uQ,kQ⟩ :=zl hq
 have n:=xF uP uQ kP kQ h
 have d:=WV kP kQ
 rw [Xj,Xj]
 by_cases a:Ll v p f<0<;>by_cases b:Ll v q f<0
 ·simp only [a,b,not_true,and_false,false_or,true_and]
  rw [Zd,Zd,Lb v p q]
  have b1:=yR v p
  have b2:=yR v q
  omega
 ·exact .inl (.inl ⟨a,b⟩)
 ·exact .inr (.inl ⟨b,a⟩)
 ·simp only [a,b,false_and,false_or,true_and]
  rw [Zd,Zd,Lb v p q]
  have b1:=yR v p
  have b2:=yR v q
  omega
def H7 (S:Nat→Bool) (lt:Nat→Nat→Bool) (b:Option Nat) (k:Nat) :Option Nat:=match b with
 | none=>if S k=true then some k else none
 | some m=>if(S k&&lt k m) =true then some k else some m
def VN (S:Nat→Bool) (lt:Nat→Nat→Bool) (n:Nat) :Option Nat:= (List.range n).foldl (H7 S lt) none
theorem VF (S:Nat→Bool) (lt:Nat→Nat→Bool) (n:Nat) :VN S lt (n+1) =H7 S lt (VN S lt n) n:=by
 unfold VN
 rw [List.range_succ,jgm]
 rfl
theorem YC (p:Nat→Bool) (S:Nat→Bool) (lt:Nat→Nat→Bool) :∀(l:List Nat) (b:Option Nat),(l.filter p).foldl (H7 S lt) b=l.foldl (H7 (fun k=>p k&&S k) lt) b
 | [],_=>rfl
 | k::l,b=>by
  rw [List.filter_cons]
  by_cases h:p k=true
  ·rw [if_pos h,jfD,jfD,YC p S lt l]
   congr 1
   cases b<;>simp [H7,h]
  ·rw [if_neg h,jfD,YC p S lt l]
   congr 1
   cases b<;>simp [H7,h]
theorem U0 {S:Nat→Bool} {lt:Nat→Nat→Bool} :∀ {n m:Nat},VN S lt n=some m→m<n∧S m=true
 | 0,m,h=>by cases h
 | n+1,m,h=>by
  rw [VF] at h
  cases hb:VN S lt n with
  | none=>
   rw [hb] at h
   unfold H7 at h
   simp only at h
   split at h
   ·rename_i hs
    injection h with h
    subst h
    exact⟨by omega,hs⟩
   ·cases h
  | some b=>
   have ih:=U0 hb
   rw [hb] at h
   unfold H7 at h
   simp only at h
   split at h
   ·rename_i hs
    injection h with h
    subst h
    simp only [jeF] at hs
    exact⟨by omega,hs.1⟩
   ·injection h with h
    subst h
    exact⟨by omega,ih.2⟩
theorem Mt {S:Nat→Bool} {lt lt':Nat→Nat→Bool} :∀ {n:Nat},(∀j k,j<n→k<n→S j=true→S k=true→j≠k→lt j k=lt' j k)→VN S lt n=VN S lt' n
 | 0,_=>rfl
 | n+1,h=>by
  rw [VF,VF,←Mt (n:=n) fun j k hj hk=>h j k (by omega) (by omega)]
  cases hb:VN S lt n with
  | none=>rfl
  | some b=>
   have:=U0 hb
   unfold H7
   simp only
   by_cases hs:S n=true
   ·rw [h n b (by omega) (by omega) hs this.2 (by omega)]
   ·simp [hs]
theorem GU {S S':Nat→Bool} {lt:Nat→Nat→Bool} :∀ {n:Nat},(∀j,j<n→S j=S' j)→VN S lt n=VN S' lt n
 | 0,_=>rfl
 | n+1,h=>by
  rw [VF,VF,GU (n:=n) fun j hj=>h j (by omega)]
  unfold H7
  rw [h n (by omega)]
structure IsMin (S:Nat→Bool) (lt:Nat→Nat→Bool) (n m:Nat) :Prop where
 le:m<n
 mem:S m=true
 min:∀j,j<n→S j=true→j≠m→lt m j=true
structure Ord (S:Nat→Bool) (lt:Nat→Nat→Bool) (n:Nat) :Prop where
 asym:∀j k,j<n→k<n→S j=true→S k=true→lt j k=true→lt k j=false
 trans:∀i j k,i<n→j<n→k<n→S i=true→S j=true→S k=true→lt i j=true→lt j k=true→lt i k=true
 total:∀j k,j<n→k<n→S j=true→S k=true→j≠k→lt j k=true∨lt k j=true
theorem Mu {S:Nat→Bool} {lt:Nat→Nat→Bool} {N:Nat} (h:Ord S lt N) :∀ {n:Nat},n≤N→(VN S lt n=none→∀j,j<n→S j=false)∧∀m,VN S lt n=some m→IsMin S lt n m
 | 0,_=>⟨fun _ j hj=>absurd hj (by omega),fun m h=>by cases h⟩
 | n+1,hn=>by
  have ih:=Mu h (n:=n) (by omega)
  rw [VF]
  cases hb:VN S lt n with
  | none=>
   have hno:=ih.1 hb
   unfold H7
   simp only
   by_cases hs:S n=true
   ·rw [if_pos hs]
    refine⟨fun e=> (by cases e),fun m e=> ?_⟩
    injection e with e
    subst e
    refine⟨by omega,hs,fun j hj h1 h2=> ?_⟩
    rw [hno j (by omega)] at h1
    cases h1
   ·rw [if_neg hs]
    refine⟨fun _ j hj=> ?_,fun m e=> (by cases e)⟩
    by_cases e:j=n
    ·subst e;simpa using hs
    ·exact hno j (by omega)
  | some b=>
   have hm:=ih.2 b hb
   unfold H7
   simp only
   by_cases hs: (S n&&lt n b) =true
   ·rw [if_pos hs]
    simp only [jeF] at hs
    refine⟨fun e=> (by cases e),fun m e=> ?_⟩
    injection e with e
    subst e
    refine⟨by omega,hs.1,fun j hj h1 h2=> ?_⟩
    by_cases e:j=b
    ·subst e;exact hs.2
    ·exact h.trans n b j (by omega) (by have:=hm.le;omega) (by omega) hs.1 hm.mem h1 hs.2 (hm.min j (by omega) h1 e)
   ·rw [if_neg hs]
    refine⟨fun e=> (by cases e),fun m e=> ?_⟩
    injection e with e
    subst e
    refine⟨by have:=hm.le;omega,hm.mem,fun j hj h1 h2=> ?_⟩
    by_cases e:j=n
    ·subst e
     have hl:lt j b=false:=by
      rw [jeF] at hs
      rw [Bool.eq_false_iff]
      exact fun k=>hs ⟨h1,k⟩
     rcases h.total j b (by omega) (by have:=hm.le;omega) h1 hm.mem h2 with k | k
     ·rw [hl] at k;cases k
     ·exact k
    ·exact hm.min j (by omega) h1 h2
structure TrOk (B:List Leg) :Prop where
 ne:∀j,j<B.length→lA (lg B j)≠lB (lg B j)
 apart:∀i j,i<B.length→j<B.length→i≠j→lA (lg B i) =lA (lg B j)→¬uo (lA (lg B i)) (lB (lg B i)) (lB (lg B j))
 back:∀i j,i<B.length→j<B.length→lA (lg B j) =lB (lg B i)→¬uo (lB (lg B i)) (lB (lg B j)) (lA (lg B i))
def Gm (u:List Bool) (k:Nat) :Bool:=u.getD k false
def wY (B:List Leg) (u:List Bool) (v:Pn) (k:Nat) :Bool:= !(Gm u k) &&decide (lA (lg B k) =v)
def Ev (B:List Leg) (v f:Pn) (j k:Nat) :Bool:=Xi v f (lB (lg B j)) (lB (lg B k))
def xE (B:List Leg) (u:List Bool) (at_:Nat) :Option Nat:=VN (wY B u (lB (lg B at_))) (Ev B (lB (lg B at_)) (lA (lg B at_))) B.length
def Yt (B:List Leg) (u:List Bool) (at_ first:Nat) :Bool:=match xE B u at_ with
 | none=>true
 | some m=>Ev B (lB (lg B at_)) (lA (lg B at_)) first m
def Za (B:List Leg) (u:List Bool) (first at_:Nat) :Option Nat:=if(decide (lB (lg B at_) =lA (lg B first)) &&Yt B u at_ first) =true then none else xE B u at_
def Is (B:List Leg) (v:Pn) :List Nat:= (List.range B.length).filter fun k=>decide (lA (lg B k) =v)
def K6 (u:List Bool) (first k:Nat) :Bool:= !(Gm u k) || decide (k=first)
def ltI (B:List Leg) (v f:Pn) (j k:Nat) :Bool:=cwF v f (lB (lg B j)) (lB (lg B k))
def yP (B:List Leg) (u:List Bool) (first at_:Nat) :Option Nat:= (Is B (lB (lg B at_))).foldl (H7 (K6 u first) (ltI B (lB (lg B at_)) (lA (lg B at_)))) none
def MJ (B:List Leg) (u:List Bool) (first at_:Nat) :Option Nat:=match yP B u first at_ with
 | none=>none
 | some m=>if m=first then none else some m
theorem EY {B:List Leg} (h:TrOk B) {at_:Nat} (ha:at_<B.length) {S:Nat→Bool} (hS:∀k,S k=true→lA (lg B k) =lB (lg B at_)) :Ord S (Ev B (lB (lg B at_)) (lA (lg B at_))) B.length:=by
 have hne:∀k,k<B.length→S k=true→lB (lg B k)≠lB (lg B at_) :=fun k hk hs e=>h.ne k hk (by rw [hS k hs,e])
 refine⟨fun j k _ _ _ _ h1=>jaB h1,fun i j k hi hj hk s1 s2 s3 h1 h2=>PR (hne i hi s1) (hne j hj s2) (hne k hk s3) h1 h2,fun j k hj hk s1 s2 hn=> ?_⟩
 refine PQ (hne j hj s1) (hne k hk s2) ?_
 have:=h.apart j k hj hk hn (by rw [hS j s1,hS k s2])
 rw [hS j s1] at this
 exact this
theorem P7 {B:List Leg} (h:TrOk B) {u:List Bool} {first at_:Nat} (hf:first<B.length) (ha:at_<B.length) (hu:Gm u first=true) :MJ B u first at_=Za B u first at_:=by
 have hb:yP B u first at_=VN (fun k=>decide (lA (lg B k) =lB (lg B at_)) &&K6 u first k) (Ev B (lB (lg B at_)) (lA (lg B at_))) B.length:=by
  unfold yP Is
  rw [YC]
  refine Mt fun j k hj hk s1 s2 hn=> ?_
  simp only [jeF,decide_eq_true_eq] at s1 s2
  have n1:lB (lg B j)≠lB (lg B at_) :=fun e=>h.ne j hj (by rw [s1.1,e])
  have n2:lB (lg B k)≠lB (lg B at_) :=fun e=>h.ne k hk (by rw [s2.1,e])
  have ap:=h.apart j k hj hk hn (by rw [s1.1,s2.1])
  rw [s1.1] at ap
  exact jc5 (h.ne at_ ha) n1 n2 (h.back at_ j ha hj s1.1) (h.back at_ k ha hk s2.1) ap
 have oD:=EY h ha (S:=fun k=>decide (lA (lg B k) =lB (lg B at_)) &&K6 u first k) (fun k hk=>by simp only [jeF,decide_eq_true_eq] at hk;exact hk.1)
 have oC:=EY h ha (S:=wY B u (lB (lg B at_))) (fun k hk=>by simp only [wY,jeF,decide_eq_true_eq] at hk;exact hk.2)
 have sD:=Mu oD (jeD _)
 have sC:=Mu oC (jeD _)
 have cd:∀k,wY B u (lB (lg B at_)) k=true→(decide (lA (lg B k) =lB (lg B at_)) &&K6 u first k) =true:=fun k hk=>by
  simp only [wY,K6,jeF,jfs,decide_eq_true_eq] at hk⊢
  exact⟨hk.2, .inl hk.1⟩
 have dc:∀k,k≠first→(decide (lA (lg B k) =lB (lg B at_)) &&K6 u first k) =true→wY B u (lB (lg B at_)) k=true:=fun k hn hk=>by
  simp only [wY,K6,jeF,jfs,decide_eq_true_eq] at hk⊢
  exact⟨hk.2.resolve_right hn,hk.1⟩
 have nf:wY B u (lB (lg B at_)) first=false:=by simp [wY,hu]
 by_cases hv:lB (lg B at_) =lA (lg B first)
 ·
  have hD: (decide (lA (lg B first) =lB (lg B at_)) &&K6 u first first) =true:=by simp [K6,hv]
  unfold MJ Za Yt
  rw [hb]
  rw [decide_eq_true hv,jfe]
  unfold xE
  cases eD:VN (fun k=>decide (lA (lg B k) =lB (lg B at_)) &&K6 u first k) (Ev B (lB (lg B at_)) (lA (lg B at_))) B.length with
  | none=>
   have this: (decide (lA (lg B first) =lB (lg B at_)) &&K6 u first first) =false:=sD.1 eD first hf
   rw [hD] at this
   cases this
  | some m=>
   have mD:=sD.2 m eD
   simp only
   cases eC:VN (wY B u (lB (lg B at_))) (Ev B (lB (lg B at_)) (lA (lg B at_))) B.length with
   | none=>
    have hno:=sC.1 eC
    simp only [if_true]
    by_cases hm:m=first
    ·rw [if_pos hm]
    ·have:=hno m mD.le
     rw [dc m hm mD.mem] at this
     cases this
   | some m'=>
    have mC:=sC.2 m' eC
    simp only
    have hm':m'≠first:=fun e=>by have:=mC.mem;rw [e,nf] at this;cases this
    by_cases hm:m=first
    ·rw [if_pos hm]
     have:=mD.min m' mC.le (cd m' mC.mem) (by rw [hm];exact hm')
     rw [hm] at this
     rw [if_pos this]
    ·rw [if_neg hm]
     have e1:m=m':=Decidable.byContradiction fun k=>by
      have a1:=mD.min m' mC.le (cd m' mC.mem) (Ne.symm k)
      have a2:=mC.min m mD.le (dc m hm mD.mem) k
      have:=oC.asym m m' mD.le mC.le (dc m hm mD.mem) mC.mem a1
      rw [a2] at this
      cases this
     have a3:=mD.min first hf hD (Ne.symm hm)
     have a4:=oD.asym m first mD.le hf mD.mem hD a3
     subst e1
     show some m=if Ev B (lB (lg B at_)) (lA (lg B at_)) first m=true then none else some m
     rw [a4]
     rfl
 ·unfold MJ Za
  rw [hb,decide_eq_false hv,jfp,if_neg (by simp)]
  unfold xE
  have e1:VN (fun k=>decide (lA (lg B k) =lB (lg B at_)) &&K6 u first k) (Ev B (lB (lg B at_)) (lA (lg B at_))) B.length=VN (wY B u (lB (lg B at_))) (Ev B (lB (lg B at_)) (lA (lg B at_))) B.length:=by
   refine GU fun k hk=> ?_
   by_cases e:k=first
   ·subst e
    rw [nf,decide_eq_false (fun k=>hv k.symm),jfp]
   ·unfold wY K6
    rw [decide_eq_false e,Bool.or_false,Bool.and_comm]
  rw [e1]
  cases eC:VN (wY B u (lB (lg B at_))) (Ev B (lB (lg B at_)) (lA (lg B at_))) B.length with
  | none=>rfl
  | some m=>
   have mC:=U0 eC
   have:m≠first:=fun e=>by have:=mC.2;rw [e,nf] at this;cases this
   simp only
   rw [if_neg this]
def WT (u:List Bool) :Nat:= (u.filter (fun b=> !b)).length
def UZ (B:List Leg) (first:Nat) :Nat→List Bool→Nat→List Pn→List Bool×List Pn
 | 0,u,_,ps=> (u,ps)
 | f+1,u,a,ps=>match Za B (u.set a true) first a with
  | none=> (u.set a true,ps++ [lA (lg B a)])
  | some m=>UZ B first f (u.set a true) m (ps++ [lA (lg B a)])
def Kg (B:List Leg) :Nat→List Bool×List (List Pn)
 | 0=> (List.replicate B.length false,[])
 | k+1=>if Gm (Kg B k).1 k=true then Kg B k else((UZ B k (WT (Kg B k).1) (Kg B k).1 k []).1,(Kg B k).2++ [(UZ B k (WT (Kg B k).1) (Kg B k).1 k []).2])
def Wk (B:List Leg) :List (List Pn) := (Kg B B.length).2
theorem jcr {u:List Bool} {a k:Nat} (ha:a<u.length) :Gm (u.set a true) k= (decide (k=a) || Gm u k) :=by
 unfold Gm
 by_cases e:k=a
 ·subst e;simp [List.getD,ha]
 ·simp [List.getD,List.getElem?_set,Ne.symm e,e]
theorem B9:∀ {u:List Bool} {a:Nat},a<u.length→Gm u a=false→WT (u.set a true) +1=WT u
 | [],a,h,_=>absurd h (by simp)
 | b::u,0,_,hb=>by
  have:b=false:=by simpa [Gm] using hb
  subst this
  simp [WT]
 | b::u,a+1,h,hb=>by
  have hb':Gm u a=false:=by simpa [Gm] using hb
  have:=B9 (u:=u) (a:=a) (by simpa using h) hb'
  unfold WT at*
  cases b<;>simp only [jeO,List.filter_cons,Bool.not_true,Bool.not_false,if_true,jfC,if_false,jeP] <;>omega
theorem Ns {B:List Leg} {u:List Bool} {first a m:Nat} (h:Za B u first a=some m) :m<B.length∧Gm u m=false:=by
 unfold Za at h
 split at h
 ·cases h
 ·have:=U0 h
  refine⟨this.1,?_⟩
  have h2:=this.2
  simp only [wY,jeF,jfq] at h2
  exact h2.1
structure RunI (B:List Leg) (first:Nat) (u0 u:List Bool) (a:Nat) (ps:List Pn) :Prop where
 eq:UZ B first (WT u0) u0 first [] =UZ B first (WT u) u a ps
 len:u.length=B.length
 la:a<B.length
 free:Gm u a=false
 used:a=first∨Gm u first=true
theorem RunI.start {B:List Leg} {first:Nat} {u:List Bool} (hl:u.length=B.length) (hf:first<B.length) (h:Gm u first=false) :RunI B first u u first [] :=⟨rfl,hl,hf,h, .inl rfl⟩
theorem RunI.pos {B:List Leg} {first:Nat} {u0 u:List Bool} {a:Nat} {ps:List Pn} (h:RunI B first u0 u a ps) :WT u=WT (u.set a true) +1:= (B9 (by rw [h.len];exact h.la) h.free).symm
theorem RunI.first {B:List Leg} {first:Nat} {u0 u:List Bool} {a:Nat} {ps:List Pn} (h:RunI B first u0 u a ps) :Gm (u.set a true) first=true:=by
 rw [jcr (by rw [h.len];exact h.la)]
 rcases h.used with e | e
 ·simp [e]
 ·simp [e]
theorem RunI.stop {B:List Leg} {first:Nat} {u0 u:List Bool} {a:Nat} {ps:List Pn} (h:RunI B first u0 u a ps) (hs:Za B (u.set a true) first a=none) :UZ B first (WT u0) u0 first [] = (u.set a true,ps++ [lA (lg B a)]) :=by
 rw [h.eq,h.pos,UZ,hs]
theorem RunI.more {B:List Leg} {first:Nat} {u0 u:List Bool} {a m:Nat} {ps:List Pn} (h:RunI B first u0 u a ps) (hs:Za B (u.set a true) first a=some m) :RunI B first u0 (u.set a true) m (ps++ [lA (lg B a)]) :=by
 have hm:=Ns hs
 exact⟨by rw [h.eq,h.pos,UZ,hs],by rw [jfM];exact h.len,hm.1,hm.2, .inr h.first⟩
theorem DY {B:List Leg} {first:Nat} :∀f u a ps,(UZ B first f u a ps).1.length=u.length∧(UZ B first f u a ps).2.length≤ps.length+f
 | 0,u,a,ps=>⟨rfl,jeD _⟩
 | f+1,u,a,ps=>by
  unfold UZ
  split
  ·exact⟨by simp,by simp⟩
  ·have:=DY (B:=B) (first:=first) f (u.set a true) (by assumption) (ps++ [lA (lg B a)])
   rw [jfM,jeC] at this
   exact⟨this.1,by have:=this.2;simp only [jeP,je6] at this;omega⟩
theorem Y8 {B:List Leg} :∀k,(Kg B k).1.length=B.length
 | 0=>by simp [Kg]
 | k+1=>by
  unfold Kg
  split
  ·exact Y8 k
  ·rw [(DY _ _ _ _).1]
   exact Y8 k
theorem B8 (u:List Bool) :WT u≤u.length:=jf0 _ _
theorem T7 {B:List Leg} {first:Nat} {p:Pn} :∀f u a ps,p∈(UZ B first f u a ps).2→a<B.length→p∈ps∨∃j,j<B.length∧p=lA (lg B j)
 | 0,u,a,ps,h,_=> .inl h
 | f+1,u,a,ps,h,ha=>by
  unfold UZ at h
  split at h
  ·simp only [jeY,jeT] at h
   rcases h with h | h
   ·exact .inl h
   ·exact .inr ⟨a,ha,h⟩
  ·rename_i m hm
   rcases T7 f _ _ _ h (Ns hm).1 with h | h
   ·simp only [jeY,jeT] at h
    rcases h with h | h
    ·exact .inl h
    ·exact .inr ⟨a,ha,h⟩
   ·exact .inr h
theorem jaq {B:List Leg} {first:Nat} :∀f u a ps,ps≠ []∨0<f→(UZ B first f u a ps).2≠ []
 | 0,u,a,ps,h=>h.resolve_right (by omega)
 | f+1,u,a,ps,_=>by
  unfold UZ
  split
  ·simp
  ·exact jaq f _ _ _ (.inl (by simp))
theorem U3 {B:List Leg} :∀k,k≤B.length→(Kg B k).2.length≤k∧∀r∈(Kg B k).2,0<r.length∧r.length≤B.length∧∀p∈r,∃j,j<B.length∧p=lA (lg B j)
 | 0,_=>⟨jeD _,fun r hr=>by cases hr⟩
 | k+1,hk=>by
  have ih:=U3 (B:=B) k (by omega)
  unfold Kg
  split
  ·exact⟨Nat.le_succ_of_le ih.1,ih.2⟩
  ·rename_i hu
   refine⟨by simp only [jeC,jeP,je6];omega,fun r hr=> ?_⟩
   simp only [jeY,jeT] at hr
   rcases hr with hr | rfl
   ·exact ih.2 r hr
   ·have hl:=Y8 (B:=B) k
    have hc:=B8 (Kg B k).1
    have hp:0<WT (Kg B k).1:=by
     have:=B9 (u:= (Kg B k).1) (a:=k) (by omega) (by simpa using hu)
     omega
    have h1:=DY (B:=B) (first:=k) (WT (Kg B k).1) (Kg B k).1 k []
    have h2:=jaq (B:=B) (first:=k) (WT (Kg B k).1) (Kg B k).1 k [] (.inr hp)
    refine⟨List.length_pos_iff.2 h2,by have:=h1.2;simp only [je6] at this;omega,fun p hp=> ?_⟩
    rcases T7 (B:=B) _ _ _ _ hp (show k<B.length by omega) with h | h
    ·cases h
    ·exact h
end Go.Proofs.YtkagkgjjfdkoaaaGreat
