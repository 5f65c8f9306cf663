import Derived.Test.YtbahojdbmmjkcaaGreatSCross
import Derived.Test.YtbahojdbmmjkcaaGreatSStabP
import Derived.Shelf.SlSortCmp.WholeK
import Derived.Test.YtbahojdbmmjkcaaGreatSHot
set_option linter.unusedVariables false
set_option linter.unusedSimpArgs false
namespace Go.Proofs.YtbahojdbmmjkcaaGreat
open Go Go.RowKit
variable {B:List Leg} {X Y p q v:Pn} {a at_:Nat} {ps:List Pn} {u u0:List Bool}
def U2 (o a:Pn) :Int:=if a.2>o.2∨(a.2=o.2∧a.1>o.1) then 0 else 1
def Mr (o a b:Pn) :Int:=if U2 o a≠U2 o b then Wv (U2 o a- U2 o b) else-Wv (tn o a b)
def XW (v f p q:Pn) :Bool:=if decide (Mr v p f<0)≠decide (Mr v q f<0) then decide (Mr v p f<0) else decide (0<Mr v p q)
def cwH (o b p:Pn) :Int:=if tn o b p<0 then 0 else if tn o b p=0 then 1 else 2
def cwF (o b p q:Pn) :Bool:=if cwH o b p≠cwH o b q then decide (cwH o b p<cwH o b q) else decide (tn o p q<0)
def uN (v p q:Pn) :Prop:=tn v p q=0∧0< (p.1- v.1) * (q.1- v.1) + (p.2- v.2) * (q.2- v.2)
theorem jbm (o a b:Pn) :Mr o a b<0↔U2 o a<U2 o b∨(U2 o a=U2 o b∧0<tn o a b) :=by
 have h1:=uz (U2 o a- U2 o b)
 have h2:=uz (tn o a b)
 unfold Mr
 split<;>omega
theorem Z3 (o a b:Pn) :0<Mr o a b↔U2 o b<U2 o a∨(U2 o a=U2 o b∧tn o a b<0) :=by
 have h1:=uz (U2 o a- U2 o b)
 have h2:=uz (tn o a b)
 unfold Mr
 split<;>omega
def BP (X:Pn) :Prop:=0<X.2∨(X.2=0∧0<X.1)
def YK (X Y:Pn) :Int:=X.1*Y.2- X.2*Y.1
theorem H7 {a b p:Int} (h:p=a*b) : (0<a∧0<b∧0<p)∨(0<a∧b<0∧p<0)∨(a<0∧0<b∧p<0)∨(a<0∧b<0∧0<p)∨(a=0∧p=0)∨(b=0∧p=0) :=ZA h
theorem yL {Z:Pn} (hX:BP X) (hY:BP Y) (hZ:BP Z) (h1:0≤YK X Y) (h2:0≤YK Y Z) :0≤YK X Z∧((0<YK X Y∨0<YK Y Z)→0<YK X Z) :=by
 have id1:Y.2*YK X Z=X.2*YK Y Z+Z.2*YK X Y:=by unfold YK;grind
 have e1:YK X Y=X.1*Y.2- X.2*Y.1:=rfl
 have e2:YK Y Z=Y.1*Z.2- Y.2*Z.1:=rfl
 have e3:YK X Z=X.1*Z.2- X.2*Z.1:=rfl
 have x0:0≤X.2:=by unfold BP at hX;omega
 have z0:0≤Z.2:=by unfold BP at hZ;omega
 by_cases hy:0<Y.2
 ·have b1:=H7 (a:=Y.2) (b:=YK X Z) rfl
  have b2:=jiP x0 h2
  have b3:=jiP z0 h1
  have hz:0<Z.2:=by
   refine Int.not_le.1 fun hz=> ?_
   have z1:Z.2=0:=by omega
   have z2:0<Z.1:=by unfold BP at hZ;omega
   have:=ji5 hy z2
   rw [z1,Int.mul_zero] at e2
   omega
  refine⟨by omega,fun h=> ?_⟩
  have c1:0<YK X Y∨0<X.2:=by
   by_cases hx:0<X.2
   ·exact .inr hx
   ·have x1:X.2=0:=by omega
    have x2:0<X.1:=by unfold BP at hX;omega
    have:=ji5 x2 hy
    rw [x1,jjl] at e1
    exact .inl Om
  have c2:0<X.2*YK Y Z+Z.2*YK X Y:=by
   by_cases k:0<YK X Y
   ·have:=ji5 hz k;omega
   ·have:=ji5 (c1.resolve_left k) (h.resolve_left k);omega
  omega
 ·have y1:Y.2=0:=by unfold BP at hY;omega
  have y2:0<Y.1:=by unfold BP at hY;omega
  rw [y1,Int.mul_zero] at e1
  rw [y1,jjl] at e2
  have m1:=H7 (a:=X.2) (b:=Y.1) rfl
  have x1:X.2=0:=by omega
  have x2:0<X.1:=by unfold BP at hX;omega
  rw [x1,jjl] at e3
  have m2:=H7 (a:=X.1) (b:=Z.2) rfl
  have m3:=H7 (a:=Y.1) (b:=Z.2) rfl
  rw [x1,jjl] at e1
  exact⟨by omega,fun h=>by omega⟩
theorem zh (X Y:Pn) :YK Y X= -YK X Y:=by unfold YK;grind
theorem Zi (h:p≠v) :∃X:Pn,BP X∧((U2 v p=0∧X= (p.1- v.1,p.2- v.2))∨(U2 v p=1∧X= (v.1- p.1,v.2- p.2))) :=by
 by_cases k:p.2>v.2∨(p.2=v.2∧p.1>v.1)
 ·refine⟨(p.1- v.1,p.2- v.2),?_, .inl ⟨if_pos k,J⟩⟩
  unfold BP
  simp only
  omega
 ·refine⟨(v.1- p.1,v.2- p.2),?_, .inr ⟨if_neg k,J⟩⟩
  have:¬(p.1=v.1∧p.2=v.2) :=fun e=>h (Prod.ext e.1 e.2)
  unfold BP
  simp only
  omega
theorem jfy (hX:BP X) (hY:BP Y) (h:YK X Y=0) :0<X.1*Y.1+X.2*Y.2:=by
 have e1:YK X Y=X.1*Y.2- X.2*Y.1:=rfl
 have a1:=H7 (a:=X.1) (b:=Y.2) rfl
 have a2:=H7 (a:=X.2) (b:=Y.1) rfl
 have a3:=H7 (a:=X.1) (b:=Y.1) rfl
 have a4:=H7 (a:=X.2) (b:=Y.2) rfl
 unfold BP at hX hY
 generalize X.1*Y.2=p1 at*
 generalize X.2*Y.1=p2 at*
 generalize X.1*Y.1=p3 at*
 generalize X.2*Y.2=p4 at*
 omega
structure Tri (a b c:Int) :Prop where
 t1:0≤a→0≤c→0≤b∧((0<a∨0<c)→0<b)
 t2:0≤b→0≤-c→0≤a∧((0<b∨0< -c)→0<a)
 t3:0≤-a→0≤b→0≤c∧((0< -a∨0<b)→0<c)
 t4:0≤c→0≤-b→0≤-a∧((0<c∨0< -b)→0< -a)
 t5:0≤-b→0≤a→0≤-c∧((0< -b∨0<a)→0< -c)
 t6:0≤-c→0≤-a→0≤-b∧((0< -c∨0< -a)→0< -b)
theorem jdV {F P Q:Pn} (hF:BP F) (hP:BP P) (hQ:BP Q) :Tri (YK F P) (YK F Q) (YK P Q) :=by
 have f1:=zh F P
 have f2:=zh F Q
 have f3:=zh P Q
 have u1:=yL hF hP hQ
 have u2:=yL hF hQ hP
 have u3:=yL hP hF hQ
 have u4:=yL hP hQ hF
 have u5:=yL hQ hF hP
 have u6:=yL hQ hP hF
 rw [f3] at u2
 rw [f1] at u3
 rw [f1,f2] at u4
 rw [f2,f3] at u5
 rw [f1,f2,f3] at u6
 exact⟨u1,u2,u3,u4,u5,u6⟩
theorem jg9 (v p q:Pn) :tn v p q=YK (p.1- v.1,p.2- v.2) (q.1- v.1,q.2- v.2) :=by simp only [tn,Kw,YK]
theorem jbP (a b c d e f:Int) :YK (a- b,c- d) (e,f) = -YK (b- a,d- c) (e,f) :=by unfold YK;grind
theorem jbQ (a b c d e f:Int) :YK (e,f) (a- b,c- d) = -YK (e,f) (b- a,d- c) :=by unfold YK;grind
theorem uf (hX: (U2 v p=0∧X= (p.1- v.1,p.2- v.2))∨(U2 v p=1∧X= (v.1- p.1,v.2- p.2))) (hY: (U2 v q=0∧Y= (q.1- v.1,q.2- v.2))∨(U2 v q=1∧Y= (v.1- q.1,v.2- q.2))) :
  (U2 v p=U2 v q∧tn v p q=YK X Y)∨(U2 v p≠U2 v q∧tn v p q= -YK X Y) :=by
 rw [jg9]
 rcases hX with⟨h1,rfl⟩ |⟨h1,rfl⟩ <;>rcases hY with⟨h2,rfl⟩ |⟨h2,rfl⟩
 ·exact .inl ⟨by omega,rfl⟩
 ·exact .inr ⟨by omega,by rw [jbQ]⟩
 ·exact .inr ⟨by omega,by rw [jbP]⟩
 ·exact .inl ⟨by omega,by rw [jbP,jbQ];omega⟩
theorem Xs (hX:BP X) (hY:BP Y) (h1: (U2 v p=0∧X= (p.1- v.1,p.2- v.2))∨(U2 v p=1∧X= (v.1- p.1,v.2- p.2))) (h2: (U2 v q=0∧Y= (q.1- v.1,q.2- v.2))∨(U2 v q=1∧Y= (v.1- q.1,v.2- q.2))) (h:¬uN v p q) :¬(U2 v p=U2 v q∧YK X Y=0) :=fun ⟨k1,k2⟩ =>by
 have hs:=jfy hX hY k2
 have hd:=uf h1 h2
 refine h ⟨by omega,?_⟩
 rcases h1 with⟨h1,rfl⟩ |⟨h1,rfl⟩ <;>rcases h2 with⟨h2,rfl⟩ |⟨h2,rfl⟩
 ·exact hs
 ·omega
 ·omega
 ·simp only at hs
  have e1: (v.1- p.1) * (v.1- q.1) = (p.1- v.1) * (q.1- v.1) :=by grind
  have e2: (v.2- p.2) * (v.2- q.2) = (p.2- v.2) * (q.2- v.2) :=by grind
  rw [e1,e2] at hs
  exact hs
theorem Ys (o a:Pn) :U2 o a=0∨U2 o a=1:=by unfold U2;split<;>simp
theorem XX (v f p q:Pn) :XW v f p q=true↔((Mr v p f<0∧¬Mr v q f<0)∨((Mr v p f<0↔Mr v q f<0)∧0<Mr v p q)) :=by
 unfold XW
 by_cases h1:Mr v p f<0<;>by_cases h2:Mr v q f<0<;>simp [h1,h2]
theorem jeo (o b p q:Pn) :cwF o b p q=true↔(cwH o b p<cwH o b q∨(cwH o b p=cwH o b q∧tn o p q<0)) :=by
 unfold cwF
 split
 ·rw [decide_eq_true_iff];omega
 ·rw [decide_eq_true_iff];omega
set_option maxHeartbeats 4000000 in
theorem jep {g1 g2 g3 a b c z4 z5 z3:Int} (hT:Tri a b c) (b1:g1=0∨g1=1) (b2:g2=0∨g2=1) (b3:g3=0∨g3=1) (d4: (g1=g2∧z4=a)∨(g1≠g2∧z4= -a)) (d5: (g1=g3∧z5=b)∨(g1≠g3∧z5= -b)) (d3: (g2=g3∧z3=c)∨(g2≠g3∧z3= -c)) (n1:¬(g2=g1∧a=0)) (n2:¬(g3=g1∧b=0)) (n3:¬(g2=g3∧c=0)) :
  ((if z4<0 then(0:Int) else if z4=0 then 1 else 2) < (if z5<0 then 0 else if z5=0 then 1 else 2)∨(if z4<0 then(0:Int) else if z4=0 then 1 else 2) = (if z5<0 then 0 else if z5=0 then 1 else 2)∧z3<0)↔
   ((g2<g1∨(g2=g1∧0< -z4))∧¬(g3<g1∨(g3=g1∧0< -z5)))∨(((g2<g1∨(g2=g1∧0< -z4))↔(g3<g1∨(g3=g1∧0< -z5)))∧(g3<g2∨(g2=g3∧z3<0))) :=by
 have e4:z4=if g1=g2 then a else-a:=by split<;>omega
 have e5:z5=if g1=g3 then b else-b:=by split<;>omega
 have e3:z3=if g2=g3 then c else-c:=by split<;>omega
 clear d4 d5 d3
 rcases ji6 a 0 with c1 | c1 | c1<;>rcases ji6 b 0 with c2 | c2 | c2<;>rcases ji6 c 0 with c3 | c3 | c3<;>
  first
  | exact absurd (hT.t1 Om Om).1 Om
  | exact absurd ((hT.t1 Om Om).2 Om) Om
  | exact absurd (hT.t2 Om Om).1 Om
  | exact absurd ((hT.t2 Om Om).2 Om) Om
  | exact absurd (hT.t3 Om Om).1 Om
  | exact absurd ((hT.t3 Om Om).2 Om) Om
  | exact absurd (hT.t4 Om Om).1 Om
  | exact absurd ((hT.t4 Om Om).2 Om) Om
  | exact absurd (hT.t5 Om Om).1 Om
  | exact absurd ((hT.t5 Om Om).2 Om) Om
  | exact absurd (hT.t6 Om Om).1 Om
  | exact absurd ((hT.t6 Om Om).2 Om) Om
  | (clear hT;rcases b1 with rfl | rfl<;>rcases b2 with rfl | rfl<;>rcases b3 with rfl | rfl<;>simp at e4 e5 e3 n1 n2 n3<;>subst e4 e5 e3<;> (repeat' split) <;>omega)
theorem jgl {f:Pn} (hf:f≠v) (hp:p≠v) (hq:q≠v) (h1:¬uN v p f) (h2:¬uN v q f) (h3:¬uN v p q) :cwF v f p q=XW v f p q:=by
 obtain ⟨F,uF,kF⟩ :=Zi hf
 obtain ⟨P,uP,kP⟩ :=Zi hp
 obtain ⟨Q,uQ,kQ⟩ :=Zi hq
 have n1:=Xs uP uF kP kF h1
 have n2:=Xs uQ uF kQ kF h2
 have n3:=Xs uP uQ kP kQ h3
 have f1:tn v p f= -tn v f p:=by simp only [tn,Kw];grind
 have f2:tn v q f= -tn v f q:=by simp only [tn,Kw];grind
 rw [zh F P] at n1
 rw [zh F Q] at n2
 have:=jep (jdV uF uP uQ) (Ys v f) (Ys v p) (Ys v q) (uf kF kP) (uf kF kQ) (uf kP kQ) (fun h=>n1 ⟨h.1,by omega⟩) (fun h=>n2 ⟨h.1,by omega⟩) n3
 rw [jiK,jeo,XX,jbm,jbm,Z3,f1,f2]
 exact this
theorem Md (v p q:Pn) :tn v q p= -tn v p q:=by simp only [tn,Kw];grind
theorem jdF {f:Pn} (h:XW v f p q=true) :XW v f q p=false:=by
 rw [Bool.eq_false_iff]
 intro h'
 rw [XX,Z3] at h h'
 have:=Md v p q
 omega
theorem jbn {r:Pn} (hp:p≠v) (hq:q≠v) (hr:r≠v) (h1:0<Mr v p q) (h2:0<Mr v q r) :0<Mr v p r:=by
 obtain ⟨P,uP,kP⟩ :=Zi hp
 obtain ⟨Q,uQ,kQ⟩ :=Zi hq
 obtain ⟨R,uR,kR⟩ :=Zi hr
 rw [Z3] at*
 have d1:=uf kP kQ
 have d2:=uf kQ kR
 have d3:=uf kP kR
 have b1:=Ys v p
 have b2:=Ys v q
 have b3:=Ys v r
 have T:= (jdV uP uQ uR).t6
 by_cases e:U2 v p=U2 v q∧U2 v q=U2 v r
 ·have t:=T Om Om
  have t2:=t.2 Om
  clear T t
  exact .inr ⟨by omega,by omega⟩
 ·clear T
  exact .inl Om
theorem jaX {f r:Pn} (hp:p≠v) (hq:q≠v) (hr:r≠v) (h1:XW v f p q=true) (h2:XW v f q r=true) :XW v f p r=true:=by
 have ht:=jbn hp hq hr
 rw [XX] at*
 rcases h1 with h1 |⟨h1,h1'⟩ <;>rcases h2 with h2 |⟨h2,h2'⟩
 ·omega
 ·exact .inl ⟨h1.1,fun k=>h1.2 (h2.2 k)⟩
 ·exact .inl ⟨h1.2 h2.1,h2.2⟩
 ·exact .inr ⟨h1.trans h2,ht h1' h2'⟩
theorem jaW {f:Pn} (hp:p≠v) (hq:q≠v) (h:¬uN v p q) :XW v f p q=true∨XW v f q p=true:=by
 obtain ⟨P,uP,kP⟩ :=Zi hp
 obtain ⟨Q,uQ,kQ⟩ :=Zi hq
 have n:=Xs uP uQ kP kQ h
 have d:=uf kP kQ
 rw [XX,XX]
 by_cases a:Mr v p f<0<;>by_cases b:Mr v q f<0
 ·simp only [a,b,not_true,and_false,false_or,true_and]
  rw [Z3,Z3,Md v p q]
  have b1:=Ys v p
  have b2:=Ys v q
  omega
 ·exact .inl (.inl ⟨a,b⟩)
 ·exact .inr (.inl ⟨b,a⟩)
 ·simp only [a,b,false_and,false_or,true_and]
  rw [Z3,Z3,Md v p q]
  have b1:=Ys v p
  have b2:=Ys v q
  omega
def Mb (S:Nat→Bool) (lt:Nat→Nat→Bool) (b:Option Nat) (k:Nat) :Option Nat:=match b with
 | none=>if S k=true then some k else none
 | some m=>if(S k&&lt k m) =true then some k else some m
def VV (S:Nat→Bool) (lt:Nat→Nat→Bool) (n:Nat) :Option Nat:= (List.range n).foldl (Mb S lt) none
theorem VL (S:Nat→Bool) (lt:Nat→Nat→Bool) (n:Nat) :VV S lt (n+1) =Mb S lt (VV S lt n) n:=by
 unfold VV
 rw [List.range_succ,jjQ]
 rfl
theorem zm (p:Nat→Bool) (S:Nat→Bool) (lt:Nat→Nat→Bool) :∀(l:List Nat) (b:Option Nat),(l.filter p).foldl (Mb S lt) b=l.foldl (Mb (fun k=>p k&&S k) lt) b
 | [],_=>rfl
 | k::l,b=>by
  rw [List.filter_cons]
  by_cases h:p k=true
  ·rw [if_pos h,ji7,ji7,zm p S lt l]
   congr 1
   cases b<;>simp [Mb,h]
  ·rw [if_neg h,ji7,zm p S lt l]
   congr 1
   cases b<;>simp [Mb,h]
theorem yE {S:Nat→Bool} {lt:Nat→Nat→Bool} :∀ {n m:Nat},VV S lt n=some m→m<n∧S m=true
 | 0,m,h=>by cases h
 | n+1,m,h=>by
  rw [VL] at h
  cases hb:VV S lt n with
  | none=>
   rw [hb] at h
   unfold Mb at h
   simp only at h
   split at h
   ·rename_i hs
    injection h with h
    subst h
    exact⟨by omega,hs⟩
   ·cases h
  | some b=>
   have ih:=yE hb
   rw [hb] at h
   unfold Mb at h
   simp only at h
   split at h
   ·rename_i hs
    injection h with h
    subst h
    simp only [jig] at hs
    exact⟨by omega,hs.1⟩
   ·injection h with h
    subst h
    exact⟨by omega,ih.2⟩
theorem O5 {S:Nat→Bool} {lt lt':Nat→Nat→Bool} :∀ {n:Nat},(∀j k,j<n→k<n→S j=true→S k=true→j≠k→lt j k=lt' j k)→VV S lt n=VV S lt' n
 | 0,_=>rfl
 | n+1,h=>by
  rw [VL,VL,←O5 (n:=n) fun j k hj hk=>h j k Om Om]
  cases hb:VV S lt n with
  | none=>rfl
  | some b=>
   have:=yE hb
   unfold Mb
   simp only
   by_cases hs:S n=true
   ·rw [h n b Om Om hs this.2 Om]
   ·simp [hs]
theorem H8 {S S':Nat→Bool} {lt:Nat→Nat→Bool} :∀ {n:Nat},(∀j,j<n→S j=S' j)→VV S lt n=VV S' lt n
 | 0,_=>rfl
 | n+1,h=>by
  rw [VL,VL,H8 (n:=n) fun j hj=>h j Om]
  unfold Mb
  rw [h n Om]
structure IsMin (S:Nat→Bool) (lt:Nat→Nat→Bool) (n m:Nat) :Prop where
 le:m<n
 mem:S m=true
 min:∀j,j<n→S j=true→j≠m→lt m j=true
structure Ord (S:Nat→Bool) (lt:Nat→Nat→Bool) (n:Nat) :Prop where
 asym:∀j k,j<n→k<n→S j=true→S k=true→lt j k=true→lt k j=false
 trans:∀i j k,i<n→j<n→k<n→S i=true→S j=true→S k=true→lt i j=true→lt j k=true→lt i k=true
 total:∀j k,j<n→k<n→S j=true→S k=true→j≠k→lt j k=true∨lt k j=true
theorem O6 {S:Nat→Bool} {lt:Nat→Nat→Bool} {N:Nat} (h:Ord S lt N) :∀ {n:Nat},n≤N→(VV S lt n=none→∀j,j<n→S j=false)∧∀m,VV S lt n=some m→IsMin S lt n m
 | 0,_=>⟨fun _ j hj=>absurd hj Om,fun m h=>by cases h⟩
 | n+1,hn=>by
  have ih:=O6 h (n:=n) Om
  rw [VL]
  cases hb:VV S lt n with
  | none=>
   have hno:=ih.1 hb
   unfold Mb
   simp only
   by_cases hs:S n=true
   ·rw [if_pos hs]
    refine⟨fun e=> (by cases e),fun m e=> ?_⟩
    injection e with e
    subst e
    refine⟨by omega,hs,fun j hj h1 h2=> ?_⟩
    rw [hno j Om] at h1
    cases h1
   ·rw [if_neg hs]
    refine⟨fun _ j hj=> ?_,fun m e=> (by cases e)⟩
    by_cases e:j=n
    ·subst e;simpa using hs
    ·exact hno j Om
  | some b=>
   have hm:=ih.2 b hb
   unfold Mb
   simp only
   by_cases hs: (S n&&lt n b) =true
   ·rw [if_pos hs]
    simp only [jig] at hs
    refine⟨fun e=> (by cases e),fun m e=> ?_⟩
    injection e with e
    subst e
    refine⟨by omega,hs.1,fun j hj h1 h2=> ?_⟩
    by_cases e:j=b
    ·subst e;exact hs.2
    ·exact h.trans n b j Om (by have:=hm.le;omega) Om hs.1 hm.mem h1 hs.2 (hm.min j Om h1 e)
   ·rw [if_neg hs]
    refine⟨fun e=> (by cases e),fun m e=> ?_⟩
    injection e with e
    subst e
    refine⟨by have:=hm.le;omega,hm.mem,fun j hj h1 h2=> ?_⟩
    by_cases e:j=n
    ·subst e
     have hl:lt j b=false:=by
      rw [jig] at hs
      rw [Bool.eq_false_iff]
      exact fun k=>hs ⟨h1,k⟩
     rcases h.total j b Om (by have:=hm.le;omega) h1 hm.mem h2 with k | k
     ·rw [hl] at k;cases k
     ·exact k
    ·exact hm.min j Om h1 h2
structure TrOk (B:List Leg) :Prop where
 ne:∀j,j<B.length→lA (lg B j)≠lB (lg B j)
 apart:∀i j,i<B.length→j<B.length→i≠j→lA (lg B i) =lA (lg B j)→¬uN (lA (lg B i)) (lB (lg B i)) (lB (lg B j))
 back:∀i j,i<B.length→j<B.length→lA (lg B j) =lB (lg B i)→¬uN (lB (lg B i)) (lB (lg B j)) (lA (lg B i))
def Hu (u:List Bool) (k:Nat) :Bool:=u.getD k false
def We (B:List Leg) (u:List Bool) (v:Pn) (k:Nat) :Bool:= !(Hu u k) &&decide (lA (lg B k) =v)
def ltS (B:List Leg) (v f:Pn) (j k:Nat) :Bool:=XW v f (lB (lg B j)) (lB (lg B k))
def Xr (B:List Leg) (u:List Bool) (at_:Nat) :Option Nat:=VV (We B u (lB (lg B at_))) (ltS B (lB (lg B at_)) (lA (lg B at_))) B.length
def Y8 (B:List Leg) (u:List Bool) (at_ first:Nat) :Bool:=match Xr B u at_ with
 | none=>true
 | some m=>ltS B (lB (lg B at_)) (lA (lg B at_)) first m
def Z0 (B:List Leg) (u:List Bool) (first at_:Nat) :Option Nat:=if(decide (lB (lg B at_) =lA (lg B first)) &&Y8 B u at_ first) =true then none else Xr B u at_
def SJ (B:List Leg) (v:Pn) :List Nat:= (List.range B.length).filter fun k=>decide (lA (lg B k) =v)
def vk (u:List Bool) (first k:Nat) :Bool:= !(Hu u k) || decide (k=first)
def ltI (B:List Leg) (v f:Pn) (j k:Nat) :Bool:=cwF v f (lB (lg B j)) (lB (lg B k))
def Yq (B:List Leg) (u:List Bool) (first at_:Nat) :Option Nat:= (SJ B (lB (lg B at_))).foldl (Mb (vk u first) (ltI B (lB (lg B at_)) (lA (lg B at_)))) none
def Bn (B:List Leg) (u:List Bool) (first at_:Nat) :Option Nat:=match Yq B u first at_ with
 | none=>none
 | some m=>if m=first then none else some m
theorem jcX (h:TrOk B) (ha:at_<B.length) {S:Nat→Bool} (hS:∀k,S k=true→lA (lg B k) =lB (lg B at_)) :Ord S (ltS B (lB (lg B at_)) (lA (lg B at_))) B.length:=by
 have hne:∀k,k<B.length→S k=true→lB (lg B k)≠lB (lg B at_) :=fun k hk hs e=>h.ne k hk (by rw [hS k hs,e])
 refine⟨fun j k _ _ _ _ h1=>jdF h1,fun i j k hi hj hk s1 s2 s3 h1 h2=>jaX (hne i hi s1) (hne j hj s2) (hne k hk s3) h1 h2,fun j k hj hk s1 s2 hn=> ?_⟩
 refine jaW (hne j hj s1) (hne k hk s2) ?_
 have:=h.apart j k hj hk hn (by rw [hS j s1,hS k s2])
 rw [hS j s1] at this
 exact this
theorem ja7 (h:TrOk B) {first:Nat} (hf:first<B.length) (ha:at_<B.length) (hu:Hu u first=true) :Bn B u first at_=Z0 B u first at_:=by
 have hb:Yq B u first at_=VV (fun k=>decide (lA (lg B k) =lB (lg B at_)) &&vk u first k) (ltS B (lB (lg B at_)) (lA (lg B at_))) B.length:=by
  unfold Yq SJ
  rw [zm]
  refine O5 fun j k hj hk s1 s2 hn=> ?_
  simp only [jig,decide_eq_true_eq] at s1 s2
  have n1:lB (lg B j)≠lB (lg B at_) :=fun e=>h.ne j hj (by rw [s1.1,e])
  have n2:lB (lg B k)≠lB (lg B at_) :=fun e=>h.ne k hk (by rw [s2.1,e])
  have ap:=h.apart j k hj hk hn (by rw [s1.1,s2.1])
  rw [s1.1] at ap
  exact jgl (h.ne at_ ha) n1 n2 (h.back at_ j ha hj s1.1) (h.back at_ k ha hk s2.1) ap
 have oD:=jcX h ha (S:=fun k=>decide (lA (lg B k) =lB (lg B at_)) &&vk u first k) (fun k hk=>by simp only [jig,decide_eq_true_eq] at hk;exact hk.1)
 have oC:=jcX h ha (S:=We B u (lB (lg B at_))) (fun k hk=>by simp only [We,jig,decide_eq_true_eq] at hk;exact hk.2)
 have sD:=O6 oD (jif _)
 have sC:=O6 oC (jif _)
 have cd:∀k,We B u (lB (lg B at_)) k=true→(decide (lA (lg B k) =lB (lg B at_)) &&vk u first k) =true:=fun k hk=>by
  simp only [We,vk,jig,ji2,decide_eq_true_eq] at hk⊢
  exact⟨hk.2, .inl hk.1⟩
 have dc:∀k,k≠first→(decide (lA (lg B k) =lB (lg B at_)) &&vk u first k) =true→We B u (lB (lg B at_)) k=true:=fun k hn hk=>by
  simp only [We,vk,jig,ji2,decide_eq_true_eq] at hk⊢
  exact⟨hk.2.resolve_right hn,hk.1⟩
 have nf:We B u (lB (lg B at_)) first=false:=by simp [We,hu]
 by_cases hv:lB (lg B at_) =lA (lg B first)
 ·
  have hD: (decide (lA (lg B first) =lB (lg B at_)) &&vk u first first) =true:=by simp [vk,hv]
  unfold Bn Z0 Y8
  rw [hb]
  rw [decide_eq_true hv,jiJ]
  unfold Xr
  cases eD:VV (fun k=>decide (lA (lg B k) =lB (lg B at_)) &&vk u first k) (ltS B (lB (lg B at_)) (lA (lg B at_))) B.length with
  | none=>
   have this: (decide (lA (lg B first) =lB (lg B at_)) &&vk u first first) =false:=sD.1 eD first hf
   rw [hD] at this
   cases this
  | some m=>
   have mD:=sD.2 m eD
   simp only
   cases eC:VV (We B u (lB (lg B at_))) (ltS B (lB (lg B at_)) (lA (lg B at_))) B.length with
   | none=>
    have hno:=sC.1 eC
    simp only [if_true]
    by_cases hm:m=first
    ·rw [if_pos hm]
    ·have:=hno m mD.le
     rw [dc m hm mD.mem] at this
     cases this
   | some m'=>
    have mC:=sC.2 m' eC
    simp only
    have hm':m'≠first:=fun e=>by have:=mC.mem;rw [e,nf] at this;cases this
    by_cases hm:m=first
    ·rw [if_pos hm]
     have:=mD.min m' mC.le (cd m' mC.mem) (by rw [hm];exact hm')
     rw [hm] at this
     rw [if_pos this]
    ·rw [if_neg hm]
     have e1:m=m':=Decidable.byContradiction fun k=>by
      have a1:=mD.min m' mC.le (cd m' mC.mem) (Ne.symm k)
      have a2:=mC.min m mD.le (dc m hm mD.mem) k
      have:=oC.asym m m' mD.le mC.le (dc m hm mD.mem) mC.mem a1
      rw [a2] at this
      cases this
     have a3:=mD.min first hf hD (Ne.symm hm)
     have a4:=oD.asym m first mD.le hf mD.mem hD a3
     subst e1
     show some m=if ltS B (lB (lg B at_)) (lA (lg B at_)) first m=true then none else some m
     rw [a4]
     rfl
 ·unfold Bn Z0
  rw [hb,decide_eq_false hv,jiS,if_neg (by simp)]
  unfold Xr
  have e1:VV (fun k=>decide (lA (lg B k) =lB (lg B at_)) &&vk u first k) (ltS B (lB (lg B at_)) (lA (lg B at_))) B.length=VV (We B u (lB (lg B at_))) (ltS B (lB (lg B at_)) (lA (lg B at_))) B.length:=by
   refine H8 fun k hk=> ?_
   by_cases e:k=first
   ·subst e
    rw [nf,decide_eq_false (fun k=>hv k.symm),jiS]
   ·unfold We vk
    rw [decide_eq_false e,Bool.or_false,Bool.and_comm]
  rw [e1]
  cases eC:VV (We B u (lB (lg B at_))) (ltS B (lB (lg B at_)) (lA (lg B at_))) B.length with
  | none=>rfl
  | some m=>
   have mC:=yE eC
   have:m≠first:=fun e=>by have:=mC.2;rw [e,nf] at this;cases this
   simp only
   rw [if_neg this]
def ud (u:List Bool) :Nat:= (u.filter (fun b=> !b)).length
def yD (B:List Leg) (first:Nat) :Nat→List Bool→Nat→List Pn→List Bool×List Pn
 | 0,u,_,ps=> (u,ps)
 | f+1,u,a,ps=>match Z0 B (u.set a true) first a with
  | none=> (u.set a true,ps++ [lA (lg B a)])
  | some m=>yD B first f (u.set a true) m (ps++ [lA (lg B a)])
def Kz (B:List Leg) :Nat→List Bool×List (List Pn)
 | 0=> (List.replicate B.length false,[])
 | k+1=>if Hu (Kz B k).1 k=true then Kz B k else((yD B k (ud (Kz B k).1) (Kz B k).1 k []).1,(Kz B k).2++ [(yD B k (ud (Kz B k).1) (Kz B k).1 k []).2])
def Wx (B:List Leg) :List (List Pn) := (Kz B B.length).2
theorem jfz {k:Nat} (ha:a<u.length) :Hu (u.set a true) k= (decide (k=a) || Hu u k) :=by
 unfold Hu
 by_cases e:k=a
 ·subst e;simp [List.getD,ha]
 ·simp [List.getD,List.getElem?_set,Ne.symm e,e]
theorem FZ:∀ {u:List Bool} {a:Nat},a<u.length→Hu u a=false→ud (u.set a true) +1=ud u
 | [],a,h,_=>absurd h (by simp)
 | b::u,0,_,hb=>by
  have:b=false:=by simpa [Hu] using hb
  subst this
  simp [ud]
 | b::u,a+1,h,hb=>by
  have hb':Hu u a=false:=by simpa [Hu] using hb
  have:=FZ (u:=u) (a:=a) (by simpa using h) hb'
  unfold ud at*
  cases b<;>simp only [List.set_cons_succ,List.filter_cons,Bool.not_true,Bool.not_false,if_true,jjb,if_false,jij] <;>omega
theorem Et {first m:Nat} (h:Z0 B u first a=some m) :m<B.length∧Hu u m=false:=by
 unfold Z0 at h
 split at h
 ·cases h
 ·have:=yE h
  refine⟨this.1,?_⟩
  have h2:=this.2
  simp only [We,jig,ji0] at h2
  exact h2.1
structure RunI (B:List Leg) (first:Nat) (u0 u:List Bool) (a:Nat) (ps:List Pn) :Prop where
 eq:yD B first (ud u0) u0 first [] =yD B first (ud u) u a ps
 len:u.length=B.length
 la:a<B.length
 free:Hu u a=false
 used:a=first∨Hu u first=true
theorem RunI.start {first:Nat} (hl:u.length=B.length) (hf:first<B.length) (h:Hu u first=false) :RunI B first u u first [] :=⟨rfl,hl,hf,h, .inl rfl⟩
theorem RunI.pos {first:Nat} (h:RunI B first u0 u a ps) :ud u=ud (u.set a true) +1:= (FZ (by rw [h.len];exact h.la) h.free).symm
theorem RunI.first {first:Nat} (h:RunI B first u0 u a ps) :Hu (u.set a true) first=true:=by
 rw [jfz (by rw [h.len];exact h.la)]
 rcases h.used with e | e
 ·simp [e]
 ·simp [e]
theorem RunI.stop {first:Nat} (h:RunI B first u0 u a ps) (hs:Z0 B (u.set a true) first a=none) :yD B first (ud u0) u0 first [] = (u.set a true,ps++ [lA (lg B a)]) :=by
 rw [h.eq,h.pos,yD,hs]
theorem RunI.more {first:Nat} {m:Nat} (h:RunI B first u0 u a ps) (hs:Z0 B (u.set a true) first a=some m) :RunI B first u0 (u.set a true) m (ps++ [lA (lg B a)]) :=by
 have hm:=Et hs
 exact⟨by rw [h.eq,h.pos,yD,hs],by rw [jjf];exact h.len,hm.1,hm.2, .inr h.first⟩
theorem I3 {B:List Leg} {first:Nat} :∀f u a ps,(yD B first f u a ps).1.length=u.length∧(yD B first f u a ps).2.length≤ps.length+f
 | 0,u,a,ps=>⟨rfl,jif _⟩
 | f+1,u,a,ps=>by
  unfold yD
  split
  ·exact⟨by simp,by simp⟩
  ·have:=I3 (B:=B) (first:=first) f (u.set a true) (by assumption) (ps++ [lA (lg B a)])
   rw [jjf,jid] at this
   exact⟨this.1,by have:=this.2;simp only [jij,jiw] at this;omega⟩
theorem Zf {B:List Leg} :∀k,(Kz B k).1.length=B.length
 | 0=>by simp [Kz]
 | k+1=>by
  unfold Kz
  split
  ·exact Zf k
  ·rw [(I3 _ _ _ _).1]
   exact Zf k
theorem FY (u:List Bool) :ud u≤u.length:=jjL _ _
theorem C3 {B:List Leg} {first:Nat} {p:Pn} :∀f u a ps,p∈(yD B first f u a ps).2→a<B.length→p∈ps∨∃j,j<B.length∧p=lA (lg B j)
 | 0,u,a,ps,h,_=> .inl h
 | f+1,u,a,ps,h,ha=>by
  unfold yD at h
  split at h
  ·simp only [jit,jin] at h
   rcases h with h | h
   ·exact .inl h
   ·exact .inr ⟨a,ha,h⟩
  ·rename_i m hm
   rcases C3 f _ _ _ h (Et hm).1 with h | h
   ·simp only [jit,jin] at h
    rcases h with h | h
    ·exact .inl h
    ·exact .inr ⟨a,ha,h⟩
   ·exact .inr h
theorem jdn {B:List Leg} {first:Nat} :∀f u a ps,ps≠ []∨0<f→(yD B first f u a ps).2≠ []
 | 0,u,a,ps,h=>h.resolve_right Om
 | f+1,u,a,ps,_=>by
  unfold yD
  split
  ·simp
  ·exact jdn f _ _ _ (.inl (by simp))
theorem yH {B:List Leg} :∀k,k≤B.length→(Kz B k).2.length≤k∧∀r∈(Kz B k).2,0<r.length∧r.length≤B.length∧∀p∈r,∃j,j<B.length∧p=lA (lg B j)
 | 0,_=>⟨jif _,fun r hr=>by cases hr⟩
 | k+1,hk=>by
  have ih:=yH (B:=B) k Om
  unfold Kz
  split
  ·exact⟨Nat.le_succ_of_le ih.1,ih.2⟩
  ·rename_i hu
   refine⟨by simp only [jid,jij,jiw];omega,fun r hr=> ?_⟩
   simp only [jit,jin] at hr
   rcases hr with hr | rfl
   ·exact ih.2 r hr
   ·have hl:=Zf (B:=B) k
    have hc:=FY (Kz B k).1
    have hp:0<ud (Kz B k).1:=by
     have:=FZ (u:= (Kz B k).1) (a:=k) Om (by simpa using hu)
     omega
    have h1:=I3 (B:=B) (first:=k) (ud (Kz B k).1) (Kz B k).1 k []
    have h2:=jdn (B:=B) (first:=k) (ud (Kz B k).1) (Kz B k).1 k [] (.inr hp)
    refine⟨List.length_pos_iff.2 h2,by have:=h1.2;simp only [jiw] at this;omega,fun p hp=> ?_⟩
    rcases C3 (B:=B) _ _ _ _ hp (show k<B.length by omega) with h | h
    ·cases h
    ·exact h
end Go.Proofs.YtbahojdbmmjkcaaGreat
namespace Go.Proofs.YtbahojdbmmjkcaaGreat
open Go Go.Shelf
def Yh:Go.Shelf.Ren:=⟨fun | 6=>182 | 15=>168 | 14=>233 | 28=>226 | 29=>227 | 20=>259 | 21=>260 | 22=>261 | 23=>262 | 24=>263 | 25=>264 | 26=>265 | 27=>266 | 46=>277 | 47=>252 | 48=>253 | 49=>278 | 50=>279 | 57=>282 | n=>n,fun | 22=>93 | 24=>96 | 25=>220 | 3=>3 | 39=>184 | 0=>0 | 53=>252 | 55=>139 | 4=>4 | 46=>246 | 45=>245 | 50=>199 | 5=>5 | 9=>9 | 66=>280 | 70=>284 | 76=>298 | 77=>299 | n=>n,fun | n=>n⟩
theorem jdG:Go.Proofs.SlLaysF0.n6 Tryz.prog Yh:= {
 mixed:=by kernel_rfl
 f6:=⟨Tryz.f182.name,by decide,Tryz.func182.trans (congrArg some Kr)⟩
 f14:=⟨Tryz.f233.name,by decide,Tryz.func233.trans (congrArg some Kr)⟩
 f15:=Tryz.func168.trans (congrArg some Kr)
 f20:=⟨Tryz.f259.name,by decide,Tryz.func259.trans (congrArg some Kr)⟩
 f21:=⟨Tryz.f260.name,by decide,Tryz.func260.trans (congrArg some Kr)⟩
 f22:=⟨Tryz.f261.name,by decide,Tryz.func261.trans (congrArg some Kr)⟩
 f23:=⟨Tryz.f262.name,by decide,Tryz.func262.trans (congrArg some Kr)⟩
 f24:=⟨Tryz.f263.name,by decide,Tryz.func263.trans (congrArg some Kr)⟩
 f25:=⟨Tryz.f264.name,by decide,Tryz.func264.trans (congrArg some Kr)⟩
 f26:=⟨Tryz.f265.name,by decide,Tryz.func265.trans (congrArg some Kr)⟩
 f27:=⟨Tryz.f266.name,by decide,Tryz.func266.trans (congrArg some Kr)⟩
 f28:=Tryz.func226.trans (congrArg some Kr)
 f29:=Tryz.func227.trans (congrArg some Kr)
 f46:=⟨Tryz.f277.name,by decide,Tryz.func277.trans (congrArg some Kr)⟩
 f47:=Tryz.func252.trans (congrArg some Kr)
 f48:=Tryz.func253.trans (congrArg some Kr)
 f49:=⟨Tryz.f278.name,by decide,Tryz.func278.trans (congrArg some Kr)⟩
 f50:=⟨Tryz.f279.name,by decide,Tryz.func279.trans (congrArg some Kr)⟩
 f57:=⟨Tryz.f282.name,by decide,Tryz.func282.trans (congrArg some Kr)⟩
 t0:=Tryz.underlying0
 a0:=Tryz.isAgg0
 z0:=Tryz.sizeOf0
 v0:=Tryz.zeroValue0
 t3:=Tryz.underlying3
 a3:=Tryz.isAgg3
 z3:=Tryz.sizeOf3
 v3:=Tryz.zeroValue3
 t4:=Tryz.underlying4
 a4:=Tryz.isAgg4
 z4:=Tryz.sizeOf4
 v4:=Tryz.zeroValue4
 t5:=Tryz.underlying5
 a5:=Tryz.isAgg5
 z5:=Tryz.sizeOf5
 v5:=Tryz.zeroValue5
 t9:=Tryz.underlying9
 a9:=Tryz.isAgg9
 z9:=Tryz.sizeOf9
 v9:=Tryz.zeroValue9
 t22:=Tryz.underlying93
 a22:=Tryz.isAgg93
 z22:=Tryz.sizeOf93
 v22:=Tryz.zeroValue93
 t25:=Tryz.underlying220
 a25:=Tryz.isAgg220
 z25:=Tryz.sizeOf220
 v25:=Tryz.zeroValue220
 t39:=Tryz.underlying184
 a39:=Tryz.isAgg184
 z39:=Tryz.sizeOf184
 v39:=Tryz.zeroValue184
 t45:=Tryz.underlying245
 a45:=Tryz.isAgg245
 z45:=Tryz.sizeOf245
 v45:=Tryz.zeroValue245
 t46:=Tryz.underlying246
 a46:=Tryz.isAgg246
 z46:=Tryz.sizeOf246
 v46:=Tryz.zeroValue246
 t50:=Tryz.underlying199
 a50:=Tryz.isAgg199
 z50:=Tryz.sizeOf199
 v50:=Tryz.zeroValue199
 t53:=Tryz.underlying252
 a53:=Tryz.isAgg252
 z53:=Tryz.sizeOf252
 v53:=Tryz.zeroValue252
 t55:=Tryz.underlying139
 a55:=Tryz.isAgg139
 z55:=Tryz.sizeOf139
 v55:=Tryz.zeroValue139
 t66:=Tryz.underlying280
 a66:=Tryz.isAgg280
 z66:=Tryz.sizeOf280
 v66:=Tryz.zeroValue280
 t70:=Tryz.underlying284
 a70:=Tryz.isAgg284
 z70:=Tryz.sizeOf284
 v70:=Tryz.zeroValue284
 t76:=Tryz.underlying298
 a76:=Tryz.isAgg298
 z76:=Tryz.sizeOf298
 v76:=Tryz.zeroValue298
 t77:=Tryz.underlying299
 a77:=Tryz.isAgg299
 z77:=Tryz.sizeOf299
 v77:=Tryz.zeroValue299}
end Go.Proofs.YtbahojdbmmjkcaaGreat
