import Derived.Test.YtbahojdbmmjkcaaGreatPNetQ
import Derived.Test.YtbahojdbmmjkcaaGreatPStabP
set_option linter.unusedVariables false
set_option linter.unusedSimpArgs false
namespace Go.Proofs.YtbahojdbmmjkcaaGreat
open Go Go.RowKit
variable {B:List Leg} {X Y p q v:Pn} {a at_:Nat} {ps:List Pn} {u u0:List Bool}
def UN (o a:Pn) :Int:=if a.2>o.2∨(a.2=o.2∧a.1>o.1) then 0 else 1
def LA (o a b:Pn) :Int:=if UN o a≠UN o b then wZ (UN o a- UN o b) else-wZ (tn o a b)
def Xk (v f p q:Pn) :Bool:=if decide (LA v p f<0)≠decide (LA v q f<0) then decide (LA v p f<0) else decide (0<LA v p q)
def Em (o b p:Pn) :Int:=if tn o b p<0 then 0 else if tn o b p=0 then 1 else 2
def cwF (o b p q:Pn) :Bool:=if Em o b p≠Em o b q then decide (Em o b p<Em o b q) else decide (tn o p q<0)
def ul (v p q:Pn) :Prop:=tn v p q=0∧0< (p.1- v.1) * (q.1- v.1) + (p.2- v.2) * (q.2- v.2)
theorem Ex (o a b:Pn) :LA o a b<0↔UN o a<UN o b∨(UN o a=UN o b∧0<tn o a b) :=by
 have h1:=W9 (UN o a- UN o b)
 have h2:=W9 (tn o a b)
 unfold LA
 split<;>omega
theorem Zr (o a b:Pn) :0<LA o a b↔UN o b<UN o a∨(UN o a=UN o b∧tn o a b<0) :=by
 have h1:=W9 (UN o a- UN o b)
 have h2:=W9 (tn o a b)
 unfold LA
 split<;>omega
def Ow (X:Pn) :Prop:=0<X.2∨(X.2=0∧0<X.1)
def Yp (X Y:Pn) :Int:=X.1*Y.2- X.2*Y.1
theorem G0 {a b p:Int} (h:p=a*b) : (0<a∧0<b∧0<p)∨(0<a∧b<0∧p<0)∨(a<0∧0<b∧p<0)∨(a<0∧b<0∧0<p)∨(a=0∧p=0)∨(b=0∧p=0) :=zL h
theorem yl {Z:Pn} (hX:Ow X) (hY:Ow Y) (hZ:Ow Z) (h1:0≤Yp X Y) (h2:0≤Yp Y Z) :0≤Yp X Z∧((0<Yp X Y∨0<Yp Y Z)→0<Yp X Z) :=by
 have id1:Y.2*Yp X Z=X.2*Yp Y Z+Z.2*Yp X Y:=by unfold Yp;grind
 have e1:Yp X Y=X.1*Y.2- X.2*Y.1:=rfl
 have e2:Yp Y Z=Y.1*Z.2- Y.2*Z.1:=rfl
 have e3:Yp X Z=X.1*Z.2- X.2*Z.1:=rfl
 have x0:0≤X.2:=by unfold Ow at hX;omega
 have z0:0≤Z.2:=by unfold Ow at hZ;omega
 by_cases hy:0<Y.2
 ·have b1:=G0 (a:=Y.2) (b:=Yp X Z) rfl
  have b2:=jg9 x0 h2
  have b3:=jg9 z0 h1
  have hz:0<Z.2:=by
   refine Int.not_le.1 fun hz=> ?_
   have z1:Z.2=0:=by omega
   have z2:0<Z.1:=by unfold Ow at hZ;omega
   have:=jhm hy z2
   rw [z1,Int.mul_zero] at e2
   omega
  refine⟨by omega,fun h=> ?_⟩
  have c1:0<Yp X Y∨0<X.2:=by
   by_cases hx:0<X.2
   ·exact .inr hx
   ·have x1:X.2=0:=by omega
    have x2:0<X.1:=by unfold Ow at hX;omega
    have:=jhm x2 hy
    rw [x1,jhE] at e1
    exact .inl Om
  have c2:0<X.2*Yp Y Z+Z.2*Yp X Y:=by
   by_cases k:0<Yp X Y
   ·have:=jhm hz k;omega
   ·have:=jhm (c1.resolve_left k) (h.resolve_left k);omega
  omega
 ·have y1:Y.2=0:=by unfold Ow at hY;omega
  have y2:0<Y.1:=by unfold Ow at hY;omega
  rw [y1,Int.mul_zero] at e1
  rw [y1,jhE] at e2
  have m1:=G0 (a:=X.2) (b:=Y.1) rfl
  have x1:X.2=0:=by omega
  have x2:0<X.1:=by unfold Ow at hX;omega
  rw [x1,jhE] at e3
  have m2:=G0 (a:=X.1) (b:=Z.2) rfl
  have m3:=G0 (a:=Y.1) (b:=Z.2) rfl
  rw [x1,jhE] at e1
  exact⟨by omega,fun h=>by omega⟩
theorem YR (X Y:Pn) :Yp Y X= -Yp X Y:=by unfold Yp;grind
theorem zr (h:p≠v) :∃X:Pn,Ow X∧((UN v p=0∧X= (p.1- v.1,p.2- v.2))∨(UN v p=1∧X= (v.1- p.1,v.2- p.2))) :=by
 by_cases k:p.2>v.2∨(p.2=v.2∧p.1>v.1)
 ·refine⟨(p.1- v.1,p.2- v.2),?_, .inl ⟨if_pos k,J⟩⟩
  unfold Ow
  simp only
  omega
 ·refine⟨(v.1- p.1,v.2- p.2),?_, .inr ⟨if_neg k,J⟩⟩
  have:¬(p.1=v.1∧p.2=v.2) :=fun e=>h (Prod.ext e.1 e.2)
  unfold Ow
  simp only
  omega
theorem jea (hX:Ow X) (hY:Ow Y) (h:Yp X Y=0) :0<X.1*Y.1+X.2*Y.2:=by
 have e1:Yp X Y=X.1*Y.2- X.2*Y.1:=rfl
 have a1:=G0 (a:=X.1) (b:=Y.2) rfl
 have a2:=G0 (a:=X.2) (b:=Y.1) rfl
 have a3:=G0 (a:=X.1) (b:=Y.1) rfl
 have a4:=G0 (a:=X.2) (b:=Y.2) rfl
 unfold Ow at hX hY
 generalize X.1*Y.2=p1 at*
 generalize X.2*Y.1=p2 at*
 generalize X.1*Y.1=p3 at*
 generalize X.2*Y.2=p4 at*
 omega
structure Tri (a b c:Int) :Prop where
 t1:0≤a→0≤c→0≤b∧((0<a∨0<c)→0<b)
 t2:0≤b→0≤-c→0≤a∧((0<b∨0< -c)→0<a)
 t3:0≤-a→0≤b→0≤c∧((0< -a∨0<b)→0<c)
 t4:0≤c→0≤-b→0≤-a∧((0<c∨0< -b)→0< -a)
 t5:0≤-b→0≤a→0≤-c∧((0< -b∨0<a)→0< -c)
 t6:0≤-c→0≤-a→0≤-b∧((0< -c∨0< -a)→0< -b)
theorem jcn {F P Q:Pn} (hF:Ow F) (hP:Ow P) (hQ:Ow Q) :Tri (Yp F P) (Yp F Q) (Yp P Q) :=by
 have f1:=YR F P
 have f2:=YR F Q
 have f3:=YR P Q
 have u1:=yl hF hP hQ
 have u2:=yl hF hQ hP
 have u3:=yl hP hF hQ
 have u4:=yl hP hQ hF
 have u5:=yl hQ hF hP
 have u6:=yl hQ hP hF
 rw [f3] at u2
 rw [f1] at u3
 rw [f1,f2] at u4
 rw [f2,f3] at u5
 rw [f1,f2,f3] at u6
 exact⟨u1,u2,u3,u4,u5,u6⟩
theorem jfx (v p q:Pn) :tn v p q=Yp (p.1- v.1,p.2- v.2) (q.1- v.1,q.2- v.2) :=by simp only [tn,Kc,Yp]
theorem E5 (a b c d e f:Int) :Yp (a- b,c- d) (e,f) = -Yp (b- a,d- c) (e,f) :=by unfold Yp;grind
theorem E6 (a b c d e f:Int) :Yp (e,f) (a- b,c- d) = -Yp (e,f) (b- a,d- c) :=by unfold Yp;grind
theorem WV (hX: (UN v p=0∧X= (p.1- v.1,p.2- v.2))∨(UN v p=1∧X= (v.1- p.1,v.2- p.2))) (hY: (UN v q=0∧Y= (q.1- v.1,q.2- v.2))∨(UN v q=1∧Y= (v.1- q.1,v.2- q.2))) :
  (UN v p=UN v q∧tn v p q=Yp X Y)∨(UN v p≠UN v q∧tn v p q= -Yp X Y) :=by
 rw [jfx]
 rcases hX with⟨h1,rfl⟩ |⟨h1,rfl⟩ <;>rcases hY with⟨h2,rfl⟩ |⟨h2,rfl⟩
 ·exact .inl ⟨by omega,rfl⟩
 ·exact .inr ⟨by omega,by rw [E6]⟩
 ·exact .inr ⟨by omega,by rw [E5]⟩
 ·exact .inl ⟨by omega,by rw [E5,E6];omega⟩
theorem xM (hX:Ow X) (hY:Ow Y) (h1: (UN v p=0∧X= (p.1- v.1,p.2- v.2))∨(UN v p=1∧X= (v.1- p.1,v.2- p.2))) (h2: (UN v q=0∧Y= (q.1- v.1,q.2- v.2))∨(UN v q=1∧Y= (v.1- q.1,v.2- q.2))) (h:¬ul v p q) :¬(UN v p=UN v q∧Yp X Y=0) :=fun ⟨k1,k2⟩ =>by
 have hs:=jea hX hY k2
 have hd:=WV h1 h2
 refine h ⟨by omega,?_⟩
 rcases h1 with⟨h1,rfl⟩ |⟨h1,rfl⟩ <;>rcases h2 with⟨h2,rfl⟩ |⟨h2,rfl⟩
 ·exact hs
 ·omega
 ·omega
 ·simp only at hs
  have e1: (v.1- p.1) * (v.1- q.1) = (p.1- v.1) * (q.1- v.1) :=by grind
  have e2: (v.2- p.2) * (v.2- q.2) = (p.2- v.2) * (q.2- v.2) :=by grind
  rw [e1,e2] at hs
  exact hs
theorem y8 (o a:Pn) :UN o a=0∨UN o a=1:=by unfold UN;split<;>simp
theorem Xl (v f p q:Pn) :Xk v f p q=true↔((LA v p f<0∧¬LA v q f<0)∨((LA v p f<0↔LA v q f<0)∧0<LA v p q)) :=by
 unfold Xk
 by_cases h1:LA v p f<0<;>by_cases h2:LA v q f<0<;>simp [h1,h2]
theorem jcS (o b p q:Pn) :cwF o b p q=true↔(Em o b p<Em o b q∨(Em o b p=Em o b q∧tn o p q<0)) :=by
 unfold cwF
 split
 ·rw [decide_eq_true_iff];omega
 ·rw [decide_eq_true_iff];omega
set_option maxHeartbeats 4000000 in
theorem jcT {g1 g2 g3 a b c z4 z5 z3:Int} (hT:Tri a b c) (b1:g1=0∨g1=1) (b2:g2=0∨g2=1) (b3:g3=0∨g3=1) (d4: (g1=g2∧z4=a)∨(g1≠g2∧z4= -a)) (d5: (g1=g3∧z5=b)∨(g1≠g3∧z5= -b)) (d3: (g2=g3∧z3=c)∨(g2≠g3∧z3= -c)) (n1:¬(g2=g1∧a=0)) (n2:¬(g3=g1∧b=0)) (n3:¬(g2=g3∧c=0)) :
  ((if z4<0 then(0:Int) else if z4=0 then 1 else 2) < (if z5<0 then 0 else if z5=0 then 1 else 2)∨(if z4<0 then(0:Int) else if z4=0 then 1 else 2) = (if z5<0 then 0 else if z5=0 then 1 else 2)∧z3<0)↔
   ((g2<g1∨(g2=g1∧0< -z4))∧¬(g3<g1∨(g3=g1∧0< -z5)))∨(((g2<g1∨(g2=g1∧0< -z4))↔(g3<g1∨(g3=g1∧0< -z5)))∧(g3<g2∨(g2=g3∧z3<0))) :=by
 have e4:z4=if g1=g2 then a else-a:=by split<;>omega
 have e5:z5=if g1=g3 then b else-b:=by split<;>omega
 have e3:z3=if g2=g3 then c else-c:=by split<;>omega
 clear d4 d5 d3
 rcases jhp a 0 with c1 | c1 | c1<;>rcases jhp b 0 with c2 | c2 | c2<;>rcases jhp c 0 with c3 | c3 | c3<;>
  first
  | exact absurd (hT.t1 Om Om).1 Om
  | exact absurd ((hT.t1 Om Om).2 Om) Om
  | exact absurd (hT.t2 Om Om).1 Om
  | exact absurd ((hT.t2 Om Om).2 Om) Om
  | exact absurd (hT.t3 Om Om).1 Om
  | exact absurd ((hT.t3 Om Om).2 Om) Om
  | exact absurd (hT.t4 Om Om).1 Om
  | exact absurd ((hT.t4 Om Om).2 Om) Om
  | exact absurd (hT.t5 Om Om).1 Om
  | exact absurd ((hT.t5 Om Om).2 Om) Om
  | exact absurd (hT.t6 Om Om).1 Om
  | exact absurd ((hT.t6 Om Om).2 Om) Om
  | (clear hT;rcases b1 with rfl | rfl<;>rcases b2 with rfl | rfl<;>rcases b3 with rfl | rfl<;>simp at e4 e5 e3 n1 n2 n3<;>subst e4 e5 e3<;> (repeat' split) <;>omega)
theorem jeO {f:Pn} (hf:f≠v) (hp:p≠v) (hq:q≠v) (h1:¬ul v p f) (h2:¬ul v q f) (h3:¬ul v p q) :cwF v f p q=Xk v f p q:=by
 obtain ⟨F,uF,kF⟩ :=zr hf
 obtain ⟨P,uP,kP⟩ :=zr hp
 obtain ⟨Q,uQ,kQ⟩ :=zr hq
 have n1:=xM uP uF kP kF h1
 have n2:=xM uQ uF kQ kF h2
 have n3:=xM uP uQ kP kQ h3
 have f1:tn v p f= -tn v f p:=by simp only [tn,Kc];grind
 have f2:tn v q f= -tn v f q:=by simp only [tn,Kc];grind
 rw [YR F P] at n1
 rw [YR F Q] at n2
 have:=jcT (jcn uF uP uQ) (y8 v f) (y8 v p) (y8 v q) (WV kF kP) (WV kF kQ) (WV kP kQ) (fun h=>n1 ⟨h.1,by omega⟩) (fun h=>n2 ⟨h.1,by omega⟩) n3
 rw [jhc,jcS,Xl,Ex,Ex,Zr,f1,f2]
 exact this
theorem Ln (v p q:Pn) :tn v q p= -tn v p q:=by simp only [tn,Kc];grind
theorem jb5 {f:Pn} (h:Xk v f p q=true) :Xk v f q p=false:=by
 rw [Bool.eq_false_iff]
 intro h'
 rw [Xl,Zr] at h h'
 have:=Ln v p q
 omega
theorem Ey {r:Pn} (hp:p≠v) (hq:q≠v) (hr:r≠v) (h1:0<LA v p q) (h2:0<LA v q r) :0<LA v p r:=by
 obtain ⟨P,uP,kP⟩ :=zr hp
 obtain ⟨Q,uQ,kQ⟩ :=zr hq
 obtain ⟨R,uR,kR⟩ :=zr hr
 rw [Zr] at*
 have d1:=WV kP kQ
 have d2:=WV kQ kR
 have d3:=WV kP kR
 have b1:=y8 v p
 have b2:=y8 v q
 have b3:=y8 v r
 have T:= (jcn uP uQ uR).t6
 by_cases e:UN v p=UN v q∧UN v q=UN v r
 ·have t:=T Om Om
  have t2:=t.2 Om
  clear T t
  exact .inr ⟨by omega,by omega⟩
 ·clear T
  exact .inl Om
theorem C2 {f r:Pn} (hp:p≠v) (hq:q≠v) (hr:r≠v) (h1:Xk v f p q=true) (h2:Xk v f q r=true) :Xk v f p r=true:=by
 have ht:=Ey hp hq hr
 rw [Xl] at*
 rcases h1 with h1 |⟨h1,h1'⟩ <;>rcases h2 with h2 |⟨h2,h2'⟩
 ·omega
 ·exact .inl ⟨h1.1,fun k=>h1.2 (h2.2 k)⟩
 ·exact .inl ⟨h1.2 h2.1,h2.2⟩
 ·exact .inr ⟨h1.trans h2,ht h1' h2'⟩
theorem C1 {f:Pn} (hp:p≠v) (hq:q≠v) (h:¬ul v p q) :Xk v f p q=true∨Xk v f q p=true:=by
 obtain ⟨P,uP,kP⟩ :=zr hp
 obtain ⟨Q,uQ,kQ⟩ :=zr hq
 have n:=xM uP uQ kP kQ h
 have d:=WV kP kQ
 rw [Xl,Xl]
 by_cases a:LA v p f<0<;>by_cases b:LA v q f<0
 ·simp only [a,b,not_true,and_false,false_or,true_and]
  rw [Zr,Zr,Ln v p q]
  have b1:=y8 v p
  have b2:=y8 v q
  omega
 ·exact .inl (.inl ⟨a,b⟩)
 ·exact .inr (.inl ⟨b,a⟩)
 ·simp only [a,b,false_and,false_or,true_and]
  rw [Zr,Zr,Ln v p q]
  have b1:=y8 v p
  have b2:=y8 v q
  omega
def Ll (S:Nat→Bool) (lt:Nat→Nat→Bool) (b:Option Nat) (k:Nat) :Option Nat:=match b with
 | none=>if S k=true then some k else none
 | some m=>if(S k&&lt k m) =true then some k else some m
def VK (S:Nat→Bool) (lt:Nat→Nat→Bool) (n:Nat) :Option Nat:= (List.range n).foldl (Ll S lt) none
theorem Vz (S:Nat→Bool) (lt:Nat→Nat→Bool) (n:Nat) :VK S lt (n+1) =Ll S lt (VK S lt n) n:=by
 unfold VK
 rw [List.range_succ,jh8]
 rfl
theorem YT (p:Nat→Bool) (S:Nat→Bool) (lt:Nat→Nat→Bool) :∀(l:List Nat) (b:Option Nat),(l.filter p).foldl (Ll S lt) b=l.foldl (Ll (fun k=>p k&&S k) lt) b
 | [],_=>rfl
 | k::l,b=>by
  rw [List.filter_cons]
  by_cases h:p k=true
  ·rw [if_pos h,jhs,jhs,YT p S lt l]
   congr 1
   cases b<;>simp [Ll,h]
  ·rw [if_neg h,jhs,YT p S lt l]
   congr 1
   cases b<;>simp [Ll,h]
theorem ye {S:Nat→Bool} {lt:Nat→Nat→Bool} :∀ {n m:Nat},VK S lt n=some m→m<n∧S m=true
 | 0,m,h=>by cases h
 | n+1,m,h=>by
  rw [Vz] at h
  cases hb:VK S lt n with
  | none=>
   rw [hb] at h
   unfold Ll at h
   simp only at h
   split at h
   ·rename_i hs
    injection h with h
    subst h
    exact⟨by omega,hs⟩
   ·cases h
  | some b=>
   have ih:=ye hb
   rw [hb] at h
   unfold Ll at h
   simp only at h
   split at h
   ·rename_i hs
    injection h with h
    subst h
    simp only [jgy] at hs
    exact⟨by omega,hs.1⟩
   ·injection h with h
    subst h
    exact⟨by omega,ih.2⟩
theorem MN {S:Nat→Bool} {lt lt':Nat→Nat→Bool} :∀ {n:Nat},(∀j k,j<n→k<n→S j=true→S k=true→j≠k→lt j k=lt' j k)→VK S lt n=VK S lt' n
 | 0,_=>rfl
 | n+1,h=>by
  rw [Vz,Vz,←MN (n:=n) fun j k hj hk=>h j k Om Om]
  cases hb:VK S lt n with
  | none=>rfl
  | some b=>
   have:=ye hb
   unfold Ll
   simp only
   by_cases hs:S n=true
   ·rw [h n b Om Om hs this.2 Om]
   ·simp [hs]
theorem G1 {S S':Nat→Bool} {lt:Nat→Nat→Bool} :∀ {n:Nat},(∀j,j<n→S j=S' j)→VK S lt n=VK S' lt n
 | 0,_=>rfl
 | n+1,h=>by
  rw [Vz,Vz,G1 (n:=n) fun j hj=>h j Om]
  unfold Ll
  rw [h n Om]
structure IsMin (S:Nat→Bool) (lt:Nat→Nat→Bool) (n m:Nat) :Prop where
 le:m<n
 mem:S m=true
 min:∀j,j<n→S j=true→j≠m→lt m j=true
structure Ord (S:Nat→Bool) (lt:Nat→Nat→Bool) (n:Nat) :Prop where
 asym:∀j k,j<n→k<n→S j=true→S k=true→lt j k=true→lt k j=false
 trans:∀i j k,i<n→j<n→k<n→S i=true→S j=true→S k=true→lt i j=true→lt j k=true→lt i k=true
 total:∀j k,j<n→k<n→S j=true→S k=true→j≠k→lt j k=true∨lt k j=true
theorem MO {S:Nat→Bool} {lt:Nat→Nat→Bool} {N:Nat} (h:Ord S lt N) :∀ {n:Nat},n≤N→(VK S lt n=none→∀j,j<n→S j=false)∧∀m,VK S lt n=some m→IsMin S lt n m
 | 0,_=>⟨fun _ j hj=>absurd hj Om,fun m h=>by cases h⟩
 | n+1,hn=>by
  have ih:=MO h (n:=n) Om
  rw [Vz]
  cases hb:VK S lt n with
  | none=>
   have hno:=ih.1 hb
   unfold Ll
   simp only
   by_cases hs:S n=true
   ·rw [if_pos hs]
    refine⟨fun e=> (by cases e),fun m e=> ?_⟩
    injection e with e
    subst e
    refine⟨by omega,hs,fun j hj h1 h2=> ?_⟩
    rw [hno j Om] at h1
    cases h1
   ·rw [if_neg hs]
    refine⟨fun _ j hj=> ?_,fun m e=> (by cases e)⟩
    by_cases e:j=n
    ·subst e;simpa using hs
    ·exact hno j Om
  | some b=>
   have hm:=ih.2 b hb
   unfold Ll
   simp only
   by_cases hs: (S n&&lt n b) =true
   ·rw [if_pos hs]
    simp only [jgy] at hs
    refine⟨fun e=> (by cases e),fun m e=> ?_⟩
    injection e with e
    subst e
    refine⟨by omega,hs.1,fun j hj h1 h2=> ?_⟩
    by_cases e:j=b
    ·subst e;exact hs.2
    ·exact h.trans n b j Om (by have:=hm.le;omega) Om hs.1 hm.mem h1 hs.2 (hm.min j Om h1 e)
   ·rw [if_neg hs]
    refine⟨fun e=> (by cases e),fun m e=> ?_⟩
    injection e with e
    subst e
    refine⟨by have:=hm.le;omega,hm.mem,fun j hj h1 h2=> ?_⟩
    by_cases e:j=n
    ·subst e
     have hl:lt j b=false:=by
      rw [jgy] at hs
      rw [Bool.eq_false_iff]
      exact fun k=>hs ⟨h1,k⟩
     rcases h.total j b Om (by have:=hm.le;omega) h1 hm.mem h2 with k | k
     ·rw [hl] at k;cases k
     ·exact k
    ·exact hm.min j Om h1 h2
structure TrOk (B:List Leg) :Prop where
 ne:∀j,j<B.length→lA (lg B j)≠lB (lg B j)
 apart:∀i j,i<B.length→j<B.length→i≠j→lA (lg B i) =lA (lg B j)→¬ul (lA (lg B i)) (lB (lg B i)) (lB (lg B j))
 back:∀i j,i<B.length→j<B.length→lA (lg B j) =lB (lg B i)→¬ul (lB (lg B i)) (lB (lg B j)) (lA (lg B i))
def Gz (u:List Bool) (k:Nat) :Bool:=u.getD k false
def wK (B:List Leg) (u:List Bool) (v:Pn) (k:Nat) :Bool:= !(Gz u k) &&decide (lA (lg B k) =v)
def ltS (B:List Leg) (v f:Pn) (j k:Nat) :Bool:=Xk v f (lB (lg B j)) (lB (lg B k))
def xL (B:List Leg) (u:List Bool) (at_:Nat) :Option Nat:=VK (wK B u (lB (lg B at_))) (ltS B (lB (lg B at_)) (lA (lg B at_))) B.length
def YK (B:List Leg) (u:List Bool) (at_ first:Nat) :Bool:=match xL B u at_ with
 | none=>true
 | some m=>ltS B (lB (lg B at_)) (lA (lg B at_)) first m
def Zm (B:List Leg) (u:List Bool) (first at_:Nat) :Option Nat:=if(decide (lB (lg B at_) =lA (lg B first)) &&YK B u at_ first) =true then none else xL B u at_
def Rg (B:List Leg) (v:Pn) :List Nat:= (List.range B.length).filter fun k=>decide (lA (lg B k) =v)
def K0 (u:List Bool) (first k:Nat) :Bool:= !(Gz u k) || decide (k=first)
def ltI (B:List Leg) (v f:Pn) (j k:Nat) :Bool:=cwF v f (lB (lg B j)) (lB (lg B k))
def y5 (B:List Leg) (u:List Bool) (first at_:Nat) :Option Nat:= (Rg B (lB (lg B at_))).foldl (Ll (K0 u first) (ltI B (lB (lg B at_)) (lA (lg B at_)))) none
def M4 (B:List Leg) (u:List Bool) (first at_:Nat) :Option Nat:=match y5 B u first at_ with
 | none=>none
 | some m=>if m=first then none else some m
theorem jbo (h:TrOk B) (ha:at_<B.length) {S:Nat→Bool} (hS:∀k,S k=true→lA (lg B k) =lB (lg B at_)) :Ord S (ltS B (lB (lg B at_)) (lA (lg B at_))) B.length:=by
 have hne:∀k,k<B.length→S k=true→lB (lg B k)≠lB (lg B at_) :=fun k hk hs e=>h.ne k hk (by rw [hS k hs,e])
 refine⟨fun j k _ _ _ _ h1=>jb5 h1,fun i j k hi hj hk s1 s2 s3 h1 h2=>C2 (hne i hi s1) (hne j hj s2) (hne k hk s3) h1 h2,fun j k hj hk s1 s2 hn=> ?_⟩
 refine C1 (hne j hj s1) (hne k hk s2) ?_
 have:=h.apart j k hj hk hn (by rw [hS j s1,hS k s2])
 rw [hS j s1] at this
 exact this
theorem Ee (h:TrOk B) {first:Nat} (hf:first<B.length) (ha:at_<B.length) (hu:Gz u first=true) :M4 B u first at_=Zm B u first at_:=by
 have hb:y5 B u first at_=VK (fun k=>decide (lA (lg B k) =lB (lg B at_)) &&K0 u first k) (ltS B (lB (lg B at_)) (lA (lg B at_))) B.length:=by
  unfold y5 Rg
  rw [YT]
  refine MN fun j k hj hk s1 s2 hn=> ?_
  simp only [jgy,decide_eq_true_eq] at s1 s2
  have n1:lB (lg B j)≠lB (lg B at_) :=fun e=>h.ne j hj (by rw [s1.1,e])
  have n2:lB (lg B k)≠lB (lg B at_) :=fun e=>h.ne k hk (by rw [s2.1,e])
  have ap:=h.apart j k hj hk hn (by rw [s1.1,s2.1])
  rw [s1.1] at ap
  exact jeO (h.ne at_ ha) n1 n2 (h.back at_ j ha hj s1.1) (h.back at_ k ha hk s2.1) ap
 have oD:=jbo h ha (S:=fun k=>decide (lA (lg B k) =lB (lg B at_)) &&K0 u first k) (fun k hk=>by simp only [jgy,decide_eq_true_eq] at hk;exact hk.1)
 have oC:=jbo h ha (S:=wK B u (lB (lg B at_))) (fun k hk=>by simp only [wK,jgy,decide_eq_true_eq] at hk;exact hk.2)
 have sD:=MO oD (jgx _)
 have sC:=MO oC (jgx _)
 have cd:∀k,wK B u (lB (lg B at_)) k=true→(decide (lA (lg B k) =lB (lg B at_)) &&K0 u first k) =true:=fun k hk=>by
  simp only [wK,K0,jgy,jhg,decide_eq_true_eq] at hk⊢
  exact⟨hk.2, .inl hk.1⟩
 have dc:∀k,k≠first→(decide (lA (lg B k) =lB (lg B at_)) &&K0 u first k) =true→wK B u (lB (lg B at_)) k=true:=fun k hn hk=>by
  simp only [wK,K0,jgy,jhg,decide_eq_true_eq] at hk⊢
  exact⟨hk.2.resolve_right hn,hk.1⟩
 have nf:wK B u (lB (lg B at_)) first=false:=by simp [wK,hu]
 by_cases hv:lB (lg B at_) =lA (lg B first)
 ·
  have hD: (decide (lA (lg B first) =lB (lg B at_)) &&K0 u first first) =true:=by simp [K0,hv]
  unfold M4 Zm YK
  rw [hb]
  rw [decide_eq_true hv,jg2]
  unfold xL
  cases eD:VK (fun k=>decide (lA (lg B k) =lB (lg B at_)) &&K0 u first k) (ltS B (lB (lg B at_)) (lA (lg B at_))) B.length with
  | none=>
   have this: (decide (lA (lg B first) =lB (lg B at_)) &&K0 u first first) =false:=sD.1 eD first hf
   rw [hD] at this
   cases this
  | some m=>
   have mD:=sD.2 m eD
   simp only
   cases eC:VK (wK B u (lB (lg B at_))) (ltS B (lB (lg B at_)) (lA (lg B at_))) B.length with
   | none=>
    have hno:=sC.1 eC
    simp only [if_true]
    by_cases hm:m=first
    ·rw [if_pos hm]
    ·have:=hno m mD.le
     rw [dc m hm mD.mem] at this
     cases this
   | some m'=>
    have mC:=sC.2 m' eC
    simp only
    have hm':m'≠first:=fun e=>by have:=mC.mem;rw [e,nf] at this;cases this
    by_cases hm:m=first
    ·rw [if_pos hm]
     have:=mD.min m' mC.le (cd m' mC.mem) (by rw [hm];exact hm')
     rw [hm] at this
     rw [if_pos this]
    ·rw [if_neg hm]
     have e1:m=m':=Decidable.byContradiction fun k=>by
      have a1:=mD.min m' mC.le (cd m' mC.mem) (Ne.symm k)
      have a2:=mC.min m mD.le (dc m hm mD.mem) k
      have:=oC.asym m m' mD.le mC.le (dc m hm mD.mem) mC.mem a1
      rw [a2] at this
      cases this
     have a3:=mD.min first hf hD (Ne.symm hm)
     have a4:=oD.asym m first mD.le hf mD.mem hD a3
     subst e1
     show some m=if ltS B (lB (lg B at_)) (lA (lg B at_)) first m=true then none else some m
     rw [a4]
     rfl
 ·unfold M4 Zm
  rw [hb,decide_eq_false hv,jhd,if_neg (by simp)]
  unfold xL
  have e1:VK (fun k=>decide (lA (lg B k) =lB (lg B at_)) &&K0 u first k) (ltS B (lB (lg B at_)) (lA (lg B at_))) B.length=VK (wK B u (lB (lg B at_))) (ltS B (lB (lg B at_)) (lA (lg B at_))) B.length:=by
   refine G1 fun k hk=> ?_
   by_cases e:k=first
   ·subst e
    rw [nf,decide_eq_false (fun k=>hv k.symm),jhd]
   ·unfold wK K0
    rw [decide_eq_false e,Bool.or_false,Bool.and_comm]
  rw [e1]
  cases eC:VK (wK B u (lB (lg B at_))) (ltS B (lB (lg B at_)) (lA (lg B at_))) B.length with
  | none=>rfl
  | some m=>
   have mC:=ye eC
   have:m≠first:=fun e=>by have:=mC.2;rw [e,nf] at this;cases this
   simp only
   rw [if_neg this]
def WT (u:List Bool) :Nat:= (u.filter (fun b=> !b)).length
def yd (B:List Leg) (first:Nat) :Nat→List Bool→Nat→List Pn→List Bool×List Pn
 | 0,u,_,ps=> (u,ps)
 | f+1,u,a,ps=>match Zm B (u.set a true) first a with
  | none=> (u.set a true,ps++ [lA (lg B a)])
  | some m=>yd B first f (u.set a true) m (ps++ [lA (lg B a)])
def Kg (B:List Leg) :Nat→List Bool×List (List Pn)
 | 0=> (List.replicate B.length false,[])
 | k+1=>if Gz (Kg B k).1 k=true then Kg B k else((yd B k (WT (Kg B k).1) (Kg B k).1 k []).1,(Kg B k).2++ [(yd B k (WT (Kg B k).1) (Kg B k).1 k []).2])
def Wb (B:List Leg) :List (List Pn) := (Kg B B.length).2
theorem jeb {k:Nat} (ha:a<u.length) :Gz (u.set a true) k= (decide (k=a) || Gz u k) :=by
 unfold Gz
 by_cases e:k=a
 ·subst e;simp [List.getD,ha]
 ·simp [List.getD,List.getElem?_set,Ne.symm e,e]
theorem DE:∀ {u:List Bool} {a:Nat},a<u.length→Gz u a=false→WT (u.set a true) +1=WT u
 | [],a,h,_=>absurd h (by simp)
 | b::u,0,_,hb=>by
  have:b=false:=by simpa [Gz] using hb
  subst this
  simp [WT]
 | b::u,a+1,h,hb=>by
  have hb':Gz u a=false:=by simpa [Gz] using hb
  have:=DE (u:=u) (a:=a) (by simpa using h) hb'
  unfold WT at*
  cases b<;>simp only [List.set_cons_succ,List.filter_cons,Bool.not_true,Bool.not_false,if_true,jhr,if_false,jgD] <;>omega
theorem PK {first m:Nat} (h:Zm B u first a=some m) :m<B.length∧Gz u m=false:=by
 unfold Zm at h
 split at h
 ·cases h
 ·have:=ye h
  refine⟨this.1,?_⟩
  have h2:=this.2
  simp only [wK,jgy,jhe] at h2
  exact h2.1
structure RunI (B:List Leg) (first:Nat) (u0 u:List Bool) (a:Nat) (ps:List Pn) :Prop where
 eq:yd B first (WT u0) u0 first [] =yd B first (WT u) u a ps
 len:u.length=B.length
 la:a<B.length
 free:Gz u a=false
 used:a=first∨Gz u first=true
theorem RunI.start {first:Nat} (hl:u.length=B.length) (hf:first<B.length) (h:Gz u first=false) :RunI B first u u first [] :=⟨rfl,hl,hf,h, .inl rfl⟩
theorem RunI.pos {first:Nat} (h:RunI B first u0 u a ps) :WT u=WT (u.set a true) +1:= (DE (by rw [h.len];exact h.la) h.free).symm
theorem RunI.first {first:Nat} (h:RunI B first u0 u a ps) :Gz (u.set a true) first=true:=by
 rw [jeb (by rw [h.len];exact h.la)]
 rcases h.used with e | e
 ·simp [e]
 ·simp [e]
theorem RunI.stop {first:Nat} (h:RunI B first u0 u a ps) (hs:Zm B (u.set a true) first a=none) :yd B first (WT u0) u0 first [] = (u.set a true,ps++ [lA (lg B a)]) :=by
 rw [h.eq,h.pos,yd,hs]
theorem RunI.more {first:Nat} {m:Nat} (h:RunI B first u0 u a ps) (hs:Zm B (u.set a true) first a=some m) :RunI B first u0 (u.set a true) m (ps++ [lA (lg B a)]) :=by
 have hm:=PK hs
 exact⟨by rw [h.eq,h.pos,yd,hs],by rw [jhy];exact h.len,hm.1,hm.2, .inr h.first⟩
theorem FI {B:List Leg} {first:Nat} :∀f u a ps,(yd B first f u a ps).1.length=u.length∧(yd B first f u a ps).2.length≤ps.length+f
 | 0,u,a,ps=>⟨rfl,jgx _⟩
 | f+1,u,a,ps=>by
  unfold yd
  split
  ·exact⟨by simp,by simp⟩
  ·have:=FI (B:=B) (first:=first) f (u.set a true) (by assumption) (ps++ [lA (lg B a)])
   rw [jhy,jgv] at this
   exact⟨this.1,by have:=this.2;simp only [jgD,jgY] at this;omega⟩
theorem zp {B:List Leg} :∀k,(Kg B k).1.length=B.length
 | 0=>by simp [Kg]
 | k+1=>by
  unfold Kg
  split
  ·exact zp k
  ·rw [(FI _ _ _ _).1]
   exact zp k
theorem DD (u:List Bool) :WT u≤u.length:=jhZ _ _
theorem Pp {B:List Leg} {first:Nat} {p:Pn} :∀f u a ps,p∈(yd B first f u a ps).2→a<B.length→p∈ps∨∃j,j<B.length∧p=lA (lg B j)
 | 0,u,a,ps,h,_=> .inl h
 | f+1,u,a,ps,h,ha=>by
  unfold yd at h
  split at h
  ·simp only [jgL,jgC] at h
   rcases h with h | h
   ·exact .inl h
   ·exact .inr ⟨a,ha,h⟩
  ·rename_i m hm
   rcases Pp f _ _ _ h (PK hm).1 with h | h
   ·simp only [jgL,jgC] at h
    rcases h with h | h
    ·exact .inl h
    ·exact .inr ⟨a,ha,h⟩
   ·exact .inr h
theorem jbV {B:List Leg} {first:Nat} :∀f u a ps,ps≠ []∨0<f→(yd B first f u a ps).2≠ []
 | 0,u,a,ps,h=>h.resolve_right Om
 | f+1,u,a,ps,_=>by
  unfold yd
  split
  ·simp
  ·exact jbV f _ _ _ (.inl (by simp))
theorem yh {B:List Leg} :∀k,k≤B.length→(Kg B k).2.length≤k∧∀r∈(Kg B k).2,0<r.length∧r.length≤B.length∧∀p∈r,∃j,j<B.length∧p=lA (lg B j)
 | 0,_=>⟨jgx _,fun r hr=>by cases hr⟩
 | k+1,hk=>by
  have ih:=yh (B:=B) k Om
  unfold Kg
  split
  ·exact⟨Nat.le_succ_of_le ih.1,ih.2⟩
  ·rename_i hu
   refine⟨by simp only [jgv,jgD,jgY];omega,fun r hr=> ?_⟩
   simp only [jgL,jgC] at hr
   rcases hr with hr | rfl
   ·exact ih.2 r hr
   ·have hl:=zp (B:=B) k
    have hc:=DD (Kg B k).1
    have hp:0<WT (Kg B k).1:=by
     have:=DE (u:= (Kg B k).1) (a:=k) Om (by simpa using hu)
     omega
    have h1:=FI (B:=B) (first:=k) (WT (Kg B k).1) (Kg B k).1 k []
    have h2:=jbV (B:=B) (first:=k) (WT (Kg B k).1) (Kg B k).1 k [] (.inr hp)
    refine⟨List.length_pos_iff.2 h2,by have:=h1.2;simp only [jgY] at this;omega,fun p hp=> ?_⟩
    rcases Pp (B:=B) _ _ _ _ hp (show k<B.length by omega) with h | h
    ·cases h
    ·exact h
end Go.Proofs.YtbahojdbmmjkcaaGreat
