import Derived.Test.YtpncbbcmoiiipaaGreatKCross
import Derived.Test.YtpncbbcmoiiipaaGreatKStabP
import Derived.Shelf.SlSortCmp.WholeK
import Derived.Test.YtpncbbcmoiiipaaGreatKHot
set_option linter.unusedVariables false
set_option linter.unusedSimpArgs false
namespace Go.Proofs.YtpncbbcmoiiipaaGreat
open Go Go.RowKit
def yz (o a:Pn) :Int:=if a.2>o.2∨(a.2=o.2∧a.1>o.1) then 0 else 1
def ME (o a b:Pn) :Int:=if yz o a≠yz o b then wt (yz o a- yz o b) else-wt (tn o a b)
def Ga (v f p q:Pn) :Bool:=if decide (ME v p f<0)≠decide (ME v q f<0) then decide (ME v p f<0) else decide (0<ME v p q)
def cwH (o b p:Pn) :Int:=if tn o b p<0 then 0 else if tn o b p=0 then 1 else 2
def cwF (o b p q:Pn) :Bool:=if cwH o b p≠cwH o b q then decide (cwH o b p<cwH o b q) else decide (tn o p q<0)
def Uk (v p q:Pn) :Prop:=tn v p q=0∧0< (p.1- v.1) * (q.1- v.1) + (p.2- v.2) * (q.2- v.2)
theorem jaU (o a b:Pn) :ME o a b<0↔yz o a<yz o b∨(yz o a=yz o b∧0<tn o a b) :=by
 have h1:=u7 (yz o a- yz o b)
 have h2:=u7 (tn o a b)
 unfold ME
 split<;>omega
theorem xa (o a b:Pn) :0<ME o a b↔yz o b<yz o a∨(yz o a=yz o b∧tn o a b<0) :=by
 have h1:=u7 (yz o a- yz o b)
 have h2:=u7 (tn o a b)
 unfold ME
 split<;>omega
def BA (X:Pn) :Prop:=0<X.2∨(X.2=0∧0<X.1)
def zd (X Y:Pn) :Int:=X.1*Y.2- X.2*Y.1
theorem Ll {a b p:Int} (h:p=a*b) : (0<a∧0<b∧0<p)∨(0<a∧b<0∧p<0)∨(a<0∧0<b∧p<0)∨(a<0∧b<0∧0<p)∨(a=0∧p=0)∨(b=0∧p=0) :=ZK h
theorem Yd {X Y Z:Pn} (hX:BA X) (hY:BA Y) (hZ:BA Z) (h1:0≤zd X Y) (h2:0≤zd Y Z) :0≤zd X Z∧((0<zd X Y∨0<zd Y Z)→0<zd X Z) :=by
 have id1:Y.2*zd X Z=X.2*zd Y Z+Z.2*zd X Y:=by unfold zd;grind
 have e1:zd X Y=X.1*Y.2- X.2*Y.1:=rfl
 have e2:zd Y Z=Y.1*Z.2- Y.2*Z.1:=rfl
 have e3:zd X Z=X.1*Z.2- X.2*Z.1:=rfl
 have x0:0≤X.2:=by unfold BA at hX;omega
 have z0:0≤Z.2:=by unfold BA at hZ;omega
 by_cases hy:0<Y.2
 ·have b1:=Ll (a:=Y.2) (b:=zd X Z) rfl
  have b2:=jiF x0 h2
  have b3:=jiF z0 h1
  have hz:0<Z.2:=by
   refine Int.not_le.1 fun hz=> ?_
   have z1:Z.2=0:=by omega
   have z2:0<Z.1:=by unfold BA at hZ;omega
   have:=jiU hy z2
   rw [z1,Int.mul_zero] at e2
   omega
  refine⟨by omega,fun h=> ?_⟩
  have c1:0<zd X Y∨0<X.2:=by
   by_cases hx:0<X.2
   ·exact .inr hx
   ·have x1:X.2=0:=by omega
    have x2:0<X.1:=by unfold BA at hX;omega
    have:=jiU x2 hy
    rw [x1,ji7] at e1
    exact .inl Om
  have c2:0<X.2*zd Y Z+Z.2*zd X Y:=by
   by_cases k:0<zd X Y
   ·have:=jiU hz k;omega
   ·have:=jiU (c1.resolve_left k) (h.resolve_left k);omega
  omega
 ·have y1:Y.2=0:=by unfold BA at hY;omega
  have y2:0<Y.1:=by unfold BA at hY;omega
  rw [y1,Int.mul_zero] at e1
  rw [y1,ji7] at e2
  have m1:=Ll (a:=X.2) (b:=Y.1) rfl
  have x1:X.2=0:=by omega
  have x2:0<X.1:=by unfold BA at hX;omega
  rw [x1,ji7] at e3
  have m2:=Ll (a:=X.1) (b:=Z.2) rfl
  have m3:=Ll (a:=Y.1) (b:=Z.2) rfl
  rw [x1,ji7] at e1
  exact⟨by omega,fun h=>by omega⟩
theorem zL (X Y:Pn) :zd Y X= -zd X Y:=by unfold zd;grind
theorem Zq {v p:Pn} (h:p≠v) :∃X:Pn,BA X∧((yz v p=0∧X= (p.1- v.1,p.2- v.2))∨(yz v p=1∧X= (v.1- p.1,v.2- p.2))) :=by
 by_cases k:p.2>v.2∨(p.2=v.2∧p.1>v.1)
 ·refine⟨(p.1- v.1,p.2- v.2),?_, .inl ⟨if_pos k,J⟩⟩
  unfold BA
  simp only
  omega
 ·refine⟨(v.1- p.1,v.2- p.2),?_, .inr ⟨if_neg k,J⟩⟩
  have:¬(p.1=v.1∧p.2=v.2) :=fun e=>h (Prod.ext e.1 e.2)
  unfold BA
  simp only
  omega
theorem jfG {X Y:Pn} (hX:BA X) (hY:BA Y) (h:zd X Y=0) :0<X.1*Y.1+X.2*Y.2:=by
 have e1:zd X Y=X.1*Y.2- X.2*Y.1:=rfl
 have a1:=Ll (a:=X.1) (b:=Y.2) rfl
 have a2:=Ll (a:=X.2) (b:=Y.1) rfl
 have a3:=Ll (a:=X.1) (b:=Y.1) rfl
 have a4:=Ll (a:=X.2) (b:=Y.2) rfl
 unfold BA at hX hY
 generalize X.1*Y.2=p1 at*
 generalize X.2*Y.1=p2 at*
 generalize X.1*Y.1=p3 at*
 generalize X.2*Y.2=p4 at*
 omega
structure Tri (a b c:Int) :Prop where
 t1:0≤a→0≤c→0≤b∧((0<a∨0<c)→0<b)
 t2:0≤b→0≤-c→0≤a∧((0<b∨0< -c)→0<a)
 t3:0≤-a→0≤b→0≤c∧((0< -a∨0<b)→0<c)
 t4:0≤c→0≤-b→0≤-a∧((0<c∨0< -b)→0< -a)
 t5:0≤-b→0≤a→0≤-c∧((0< -b∨0<a)→0< -c)
 t6:0≤-c→0≤-a→0≤-b∧((0< -c∨0< -a)→0< -b)
theorem jdF {F P Q:Pn} (hF:BA F) (hP:BA P) (hQ:BA Q) :Tri (zd F P) (zd F Q) (zd P Q) :=by
 have f1:=zL F P
 have f2:=zL F Q
 have f3:=zL P Q
 have u1:=Yd hF hP hQ
 have u2:=Yd hF hQ hP
 have u3:=Yd hP hF hQ
 have u4:=Yd hP hQ hF
 have u5:=Yd hQ hF hP
 have u6:=Yd hQ hP hF
 rw [f3] at u2
 rw [f1] at u3
 rw [f1,f2] at u4
 rw [f2,f3] at u5
 rw [f1,f2,f3] at u6
 exact⟨u1,u2,u3,u4,u5,u6⟩
theorem jg9 (v p q:Pn) :tn v p q=zd (p.1- v.1,p.2- v.2) (q.1- v.1,q.2- v.2) :=by simp only [tn,Q8,zd]
theorem jby (a b c d e f:Int) :zd (a- b,c- d) (e,f) = -zd (b- a,d- c) (e,f) :=by unfold zd;grind
theorem jbz (a b c d e f:Int) :zd (e,f) (a- b,c- d) = -zd (e,f) (b- a,d- c) :=by unfold zd;grind
theorem uE {v p q X Y:Pn} (hX: (yz v p=0∧X= (p.1- v.1,p.2- v.2))∨(yz v p=1∧X= (v.1- p.1,v.2- p.2))) (hY: (yz v q=0∧Y= (q.1- v.1,q.2- v.2))∨(yz v q=1∧Y= (v.1- q.1,v.2- q.2))) :
  (yz v p=yz v q∧tn v p q=zd X Y)∨(yz v p≠yz v q∧tn v p q= -zd X Y) :=by
 rw [jg9]
 rcases hX with⟨h1,rfl⟩ |⟨h1,rfl⟩ <;>rcases hY with⟨h2,rfl⟩ |⟨h2,rfl⟩
 ·exact .inl ⟨by omega,rfl⟩
 ·exact .inr ⟨by omega,by rw [jbz]⟩
 ·exact .inr ⟨by omega,by rw [jby]⟩
 ·exact .inl ⟨by omega,by rw [jby,jbz];omega⟩
theorem XG {v p q X Y:Pn} (hX:BA X) (hY:BA Y) (h1: (yz v p=0∧X= (p.1- v.1,p.2- v.2))∨(yz v p=1∧X= (v.1- p.1,v.2- p.2))) (h2: (yz v q=0∧Y= (q.1- v.1,q.2- v.2))∨(yz v q=1∧Y= (v.1- q.1,v.2- q.2))) (h:¬Uk v p q) :¬(yz v p=yz v q∧zd X Y=0) :=fun ⟨k1,k2⟩ =>by
 have hs:=jfG hX hY k2
 have hd:=uE h1 h2
 refine h ⟨by omega,?_⟩
 rcases h1 with⟨h1,rfl⟩ |⟨h1,rfl⟩ <;>rcases h2 with⟨h2,rfl⟩ |⟨h2,rfl⟩
 ·exact hs
 ·omega
 ·omega
 ·simp only at hs
  have e1: (v.1- p.1) * (v.1- q.1) = (p.1- v.1) * (q.1- v.1) :=by grind
  have e2: (v.2- p.2) * (v.2- q.2) = (p.2- v.2) * (q.2- v.2) :=by grind
  rw [e1,e2] at hs
  exact hs
theorem YW (o a:Pn) :yz o a=0∨yz o a=1:=by unfold yz;split<;>simp
theorem Gb (v f p q:Pn) :Ga v f p q=true↔((ME v p f<0∧¬ME v q f<0)∨((ME v p f<0↔ME v q f<0)∧0<ME v p q)) :=by
 unfold Ga
 by_cases h1:ME v p f<0<;>by_cases h2:ME v q f<0<;>simp [h1,h2]
theorem jek (o b p q:Pn) :cwF o b p q=true↔(cwH o b p<cwH o b q∨(cwH o b p=cwH o b q∧tn o p q<0)) :=by
 unfold cwF
 split
 ·rw [decide_eq_true_iff];omega
 ·rw [decide_eq_true_iff];omega
set_option maxHeartbeats 4000000 in
theorem jel {g1 g2 g3 a b c z4 z5 z3:Int} (hT:Tri a b c) (b1:g1=0∨g1=1) (b2:g2=0∨g2=1) (b3:g3=0∨g3=1)
  (d4: (g1=g2∧z4=a)∨(g1≠g2∧z4= -a)) (d5: (g1=g3∧z5=b)∨(g1≠g3∧z5= -b)) (d3: (g2=g3∧z3=c)∨(g2≠g3∧z3= -c))
  (n1:¬(g2=g1∧a=0)) (n2:¬(g3=g1∧b=0)) (n3:¬(g2=g3∧c=0)) :
  ((if z4<0 then(0:Int) else if z4=0 then 1 else 2) < (if z5<0 then 0 else if z5=0 then 1 else 2)∨(if z4<0 then(0:Int) else if z4=0 then 1 else 2) = (if z5<0 then 0 else if z5=0 then 1 else 2)∧z3<0)↔
   ((g2<g1∨(g2=g1∧0< -z4))∧¬(g3<g1∨(g3=g1∧0< -z5)))∨(((g2<g1∨(g2=g1∧0< -z4))↔(g3<g1∨(g3=g1∧0< -z5)))∧(g3<g2∨(g2=g3∧z3<0))) :=by
 have e4:z4=if g1=g2 then a else-a:=by split<;>omega
 have e5:z5=if g1=g3 then b else-b:=by split<;>omega
 have e3:z3=if g2=g3 then c else-c:=by split<;>omega
 clear d4 d5 d3
 rcases ji1 a 0 with c1 | c1 | c1<;>rcases ji1 b 0 with c2 | c2 | c2<;>rcases ji1 c 0 with c3 | c3 | c3<;>
  first
  | exact absurd (hT.t1 Om Om).1 Om
  | exact absurd ((hT.t1 Om Om).2 Om) Om
  | exact absurd (hT.t2 Om Om).1 Om
  | exact absurd ((hT.t2 Om Om).2 Om) Om
  | exact absurd (hT.t3 Om Om).1 Om
  | exact absurd ((hT.t3 Om Om).2 Om) Om
  | exact absurd (hT.t4 Om Om).1 Om
  | exact absurd ((hT.t4 Om Om).2 Om) Om
  | exact absurd (hT.t5 Om Om).1 Om
  | exact absurd ((hT.t5 Om Om).2 Om) Om
  | exact absurd (hT.t6 Om Om).1 Om
  | exact absurd ((hT.t6 Om Om).2 Om) Om
  | (clear hT;rcases b1 with rfl | rfl<;>rcases b2 with rfl | rfl<;>rcases b3 with rfl | rfl<;>simp at e4 e5 e3 n1 n2 n3<;>subst e4 e5 e3<;> (repeat' split) <;>omega)
theorem jgo {v f p q:Pn} (hf:f≠v) (hp:p≠v) (hq:q≠v) (h1:¬Uk v p f) (h2:¬Uk v q f) (h3:¬Uk v p q) :cwF v f p q=Ga v f p q:=by
 obtain ⟨F,uF,kF⟩ :=Zq hf
 obtain ⟨P,uP,kP⟩ :=Zq hp
 obtain ⟨Q,uQ,kQ⟩ :=Zq hq
 have n1:=XG uP uF kP kF h1
 have n2:=XG uQ uF kQ kF h2
 have n3:=XG uP uQ kP kQ h3
 have f1:tn v p f= -tn v f p:=by simp only [tn,Q8];grind
 have f2:tn v q f= -tn v f q:=by simp only [tn,Q8];grind
 rw [zL F P] at n1
 rw [zL F Q] at n2
 have:=jel (jdF uF uP uQ) (YW v f) (YW v p) (YW v q) (uE kF kP) (uE kF kQ) (uE kP kQ) (fun h=>n1 ⟨h.1,by omega⟩) (fun h=>n2 ⟨h.1,by omega⟩) n3
 rw [jiN,jek,Gb,jaU,jaU,xa,f1,f2]
 exact this
theorem Mv (v p q:Pn) :tn v q p= -tn v p q:=by simp only [tn,Q8];grind
theorem jdm {v f p q:Pn} (h:Ga v f p q=true) :Ga v f q p=false:=by
 rw [Bool.eq_false_iff]
 intro h'
 rw [Gb,xa] at h h'
 have:=Mv v p q
 omega
theorem jaV {v p q r:Pn} (hp:p≠v) (hq:q≠v) (hr:r≠v) (h1:0<ME v p q) (h2:0<ME v q r) :0<ME v p r:=by
 obtain ⟨P,uP,kP⟩ :=Zq hp
 obtain ⟨Q,uQ,kQ⟩ :=Zq hq
 obtain ⟨R,uR,kR⟩ :=Zq hr
 rw [xa] at*
 have d1:=uE kP kQ
 have d2:=uE kQ kR
 have d3:=uE kP kR
 have b1:=YW v p
 have b2:=YW v q
 have b3:=YW v r
 have T:= (jdF uP uQ uR).t6
 by_cases e:yz v p=yz v q∧yz v q=yz v r
 ·have t:=T Om Om
  have t2:=t.2 Om
  clear T t
  exact .inr ⟨by omega,by omega⟩
 ·clear T
  exact .inl Om
theorem jas {v f p q r:Pn} (hp:p≠v) (hq:q≠v) (hr:r≠v) (h1:Ga v f p q=true) (h2:Ga v f q r=true) :Ga v f p r=true:=by
 have ht:=jaV hp hq hr
 rw [Gb] at*
 rcases h1 with h1 |⟨h1,h1'⟩ <;>rcases h2 with h2 |⟨h2,h2'⟩
 ·omega
 ·exact .inl ⟨h1.1,fun k=>h1.2 (h2.2 k)⟩
 ·exact .inl ⟨h1.2 h2.1,h2.2⟩
 ·exact .inr ⟨h1.trans h2,ht h1' h2'⟩
theorem jar {v f p q:Pn} (hp:p≠v) (hq:q≠v) (h:¬Uk v p q) :Ga v f p q=true∨Ga v f q p=true:=by
 obtain ⟨P,uP,kP⟩ :=Zq hp
 obtain ⟨Q,uQ,kQ⟩ :=Zq hq
 have n:=XG uP uQ kP kQ h
 have d:=uE kP kQ
 rw [Gb,Gb]
 by_cases a:ME v p f<0<;>by_cases b:ME v q f<0
 ·simp only [a,b,not_true,and_false,false_or,true_and]
  rw [xa,xa,Mv v p q]
  have b1:=YW v p
  have b2:=YW v q
  omega
 ·exact .inl (.inl ⟨a,b⟩)
 ·exact .inr (.inl ⟨b,a⟩)
 ·simp only [a,b,false_and,false_or,true_and]
  rw [xa,xa,Mv v p q]
  have b1:=YW v p
  have b2:=YW v q
  omega
def Ls (S:Nat→Bool) (lt:Nat→Nat→Bool) (b:Option Nat) (k:Nat) :Option Nat:=match b with
 | none=>if S k=true then some k else none
 | some m=>if(S k&&lt k m) =true then some k else some m
def VY (S:Nat→Bool) (lt:Nat→Nat→Bool) (n:Nat) :Option Nat:= (List.range n).foldl (Ls S lt) none
theorem Vz (S:Nat→Bool) (lt:Nat→Nat→Bool) (n:Nat) :VY S lt (n+1) =Ls S lt (VY S lt n) n:=by
 unfold VY
 rw [List.range_succ,jj7]
 rfl
theorem zO (p:Nat→Bool) (S:Nat→Bool) (lt:Nat→Nat→Bool) :∀(l:List Nat) (b:Option Nat),(l.filter p).foldl (Ls S lt) b=l.foldl (Ls (fun k=>p k&&S k) lt) b
 | [],_=>rfl
 | k::l,b=>by
  rw [List.filter_cons]
  by_cases h:p k=true
  ·rw [if_pos h,jjd,jjd,zO p S lt l]
   congr 1
   cases b<;>simp [Ls,h]
  ·rw [if_neg h,jjd,zO p S lt l]
   congr 1
   cases b<;>simp [Ls,h]
theorem UQ {S:Nat→Bool} {lt:Nat→Nat→Bool} :∀ {n m:Nat},VY S lt n=some m→m<n∧S m=true
 | 0,m,h=>by cases h
 | n+1,m,h=>by
  rw [Vz] at h
  cases hb:VY S lt n with
  | none=>
   rw [hb] at h
   unfold Ls at h
   simp only at h
   split at h
   ·rename_i hs
    injection h with h
    subst h
    exact⟨by omega,hs⟩
   ·cases h
  | some b=>
   have ih:=UQ hb
   rw [hb] at h
   unfold Ls at h
   simp only at h
   split at h
   ·rename_i hs
    injection h with h
    subst h
    simp only [jig] at hs
    exact⟨by omega,hs.1⟩
   ·injection h with h
    subst h
    exact⟨by omega,ih.2⟩
theorem OV {S:Nat→Bool} {lt lt':Nat→Nat→Bool} :∀ {n:Nat},(∀j k,j<n→k<n→S j=true→S k=true→j≠k→lt j k=lt' j k)→VY S lt n=VY S lt' n
 | 0,_=>rfl
 | n+1,h=>by
  rw [Vz,Vz,←OV (n:=n) fun j k hj hk=>h j k Om Om]
  cases hb:VY S lt n with
  | none=>rfl
  | some b=>
   have:=UQ hb
   unfold Ls
   simp only
   by_cases hs:S n=true
   ·rw [h n b Om Om hs this.2 Om]
   ·simp [hs]
theorem Lm {S S':Nat→Bool} {lt:Nat→Nat→Bool} :∀ {n:Nat},(∀j,j<n→S j=S' j)→VY S lt n=VY S' lt n
 | 0,_=>rfl
 | n+1,h=>by
  rw [Vz,Vz,Lm (n:=n) fun j hj=>h j Om]
  unfold Ls
  rw [h n Om]
structure IsMin (S:Nat→Bool) (lt:Nat→Nat→Bool) (n m:Nat) :Prop where
 le:m<n
 mem:S m=true
 min:∀j,j<n→S j=true→j≠m→lt m j=true
structure Ord (S:Nat→Bool) (lt:Nat→Nat→Bool) (n:Nat) :Prop where
 asym:∀j k,j<n→k<n→S j=true→S k=true→lt j k=true→lt k j=false
 trans:∀i j k,i<n→j<n→k<n→S i=true→S j=true→S k=true→lt i j=true→lt j k=true→lt i k=true
 total:∀j k,j<n→k<n→S j=true→S k=true→j≠k→lt j k=true∨lt k j=true
theorem OW {S:Nat→Bool} {lt:Nat→Nat→Bool} {N:Nat} (h:Ord S lt N) :∀ {n:Nat},n≤N→(VY S lt n=none→∀j,j<n→S j=false)∧∀m,VY S lt n=some m→IsMin S lt n m
 | 0,_=>⟨fun _ j hj=>absurd hj Om,fun m h=>by cases h⟩
 | n+1,hn=>by
  have ih:=OW h (n:=n) Om
  rw [Vz]
  cases hb:VY S lt n with
  | none=>
   have hno:=ih.1 hb
   unfold Ls
   simp only
   by_cases hs:S n=true
   ·rw [if_pos hs]
    refine⟨fun e=> (by cases e),fun m e=> ?_⟩
    injection e with e
    subst e
    refine⟨by omega,hs,fun j hj h1 h2=> ?_⟩
    rw [hno j Om] at h1
    cases h1
   ·rw [if_neg hs]
    refine⟨fun _ j hj=> ?_,fun m e=> (by cases e)⟩
    by_cases e:j=n
    ·subst e;simpa using hs
    ·exact hno j Om
  | some b=>
   have hm:=ih.2 b hb
   unfold Ls
   simp only
   by_cases hs: (S n&&lt n b) =true
   ·rw [if_pos hs]
    simp only [jig] at hs
    refine⟨fun e=> (by cases e),fun m e=> ?_⟩
    injection e with e
    subst e
    refine⟨by omega,hs.1,fun j hj h1 h2=> ?_⟩
    by_cases e:j=b
    ·subst e;exact hs.2
    ·exact h.trans n b j Om (by have:=hm.le;omega) Om hs.1 hm.mem h1 hs.2 (hm.min j Om h1 e)
   ·rw [if_neg hs]
    refine⟨fun e=> (by cases e),fun m e=> ?_⟩
    injection e with e
    subst e
    refine⟨by have:=hm.le;omega,hm.mem,fun j hj h1 h2=> ?_⟩
    by_cases e:j=n
    ·subst e
     have hl:lt j b=false:=by
      rw [jig] at hs
      rw [Bool.eq_false_iff]
      exact fun k=>hs ⟨h1,k⟩
     rcases h.total j b Om (by have:=hm.le;omega) h1 hm.mem h2 with k | k
     ·rw [hl] at k;cases k
     ·exact k
    ·exact hm.min j Om h1 h2
structure TrOk (B:List Leg) :Prop where
 ne:∀j,j<B.length→lA (lg B j)≠lB (lg B j)
 apart:∀i j,i<B.length→j<B.length→i≠j→lA (lg B i) =lA (lg B j)→¬Uk (lA (lg B i)) (lB (lg B i)) (lB (lg B j))
 back:∀i j,i<B.length→j<B.length→lA (lg B j) =lB (lg B i)→¬Uk (lB (lg B i)) (lB (lg B j)) (lA (lg B i))
def yw (u:List Bool) (k:Nat) :Bool:=u.getD k false
def wD (B:List Leg) (u:List Bool) (v:Pn) (k:Nat) :Bool:= !(yw u k) &&decide (lA (lg B k) =v)
def ltS (B:List Leg) (v f:Pn) (j k:Nat) :Bool:=Ga v f (lB (lg B j)) (lB (lg B k))
def XE (B:List Leg) (u:List Bool) (at_:Nat) :Option Nat:=VY (wD B u (lB (lg B at_))) (ltS B (lB (lg B at_)) (lA (lg B at_))) B.length
def zF (B:List Leg) (u:List Bool) (at_ first:Nat) :Bool:=match XE B u at_ with
 | none=>true
 | some m=>ltS B (lB (lg B at_)) (lA (lg B at_)) first m
def y5 (B:List Leg) (u:List Bool) (first at_:Nat) :Option Nat:=if(decide (lB (lg B at_) =lA (lg B first)) &&zF B u at_ first) =true then none else XE B u at_
def Sd (B:List Leg) (v:Pn) :List Nat:= (List.range B.length).filter fun k=>decide (lA (lg B k) =v)
def vL (u:List Bool) (first k:Nat) :Bool:= !(yw u k) || decide (k=first)
def ltI (B:List Leg) (v f:Pn) (j k:Nat) :Bool:=cwF v f (lB (lg B j)) (lB (lg B k))
def YU (B:List Leg) (u:List Bool) (first at_:Nat) :Option Nat:= (Sd B (lB (lg B at_))).foldl (Ls (vL u first) (ltI B (lB (lg B at_)) (lA (lg B at_)))) none
def Ba (B:List Leg) (u:List Bool) (first at_:Nat) :Option Nat:=match YU B u first at_ with
 | none=>none
 | some m=>if m=first then none else some m
theorem jcG {B:List Leg} (h:TrOk B) {at_:Nat} (ha:at_<B.length) {S:Nat→Bool} (hS:∀k,S k=true→lA (lg B k) =lB (lg B at_)) :Ord S (ltS B (lB (lg B at_)) (lA (lg B at_))) B.length:=by
 have hne:∀k,k<B.length→S k=true→lB (lg B k)≠lB (lg B at_) :=fun k hk hs e=>h.ne k hk (by rw [hS k hs,e])
 refine⟨fun j k _ _ _ _ h1=>jdm h1,fun i j k hi hj hk s1 s2 s3 h1 h2=>jas (hne i hi s1) (hne j hj s2) (hne k hk s3) h1 h2,fun j k hj hk s1 s2 hn=> ?_⟩
 refine jar (hne j hj s1) (hne k hk s2) ?_
 have:=h.apart j k hj hk hn (by rw [hS j s1,hS k s2])
 rw [hS j s1] at this
 exact this
theorem jaE {B:List Leg} (h:TrOk B) {u:List Bool} {first at_:Nat} (hf:first<B.length) (ha:at_<B.length) (hu:yw u first=true) :Ba B u first at_=y5 B u first at_:=by
 have hb:YU B u first at_=VY (fun k=>decide (lA (lg B k) =lB (lg B at_)) &&vL u first k) (ltS B (lB (lg B at_)) (lA (lg B at_))) B.length:=by
  unfold YU Sd
  rw [zO]
  refine OV fun j k hj hk s1 s2 hn=> ?_
  simp only [jig,decide_eq_true_eq] at s1 s2
  have n1:lB (lg B j)≠lB (lg B at_) :=fun e=>h.ne j hj (by rw [s1.1,e])
  have n2:lB (lg B k)≠lB (lg B at_) :=fun e=>h.ne k hk (by rw [s2.1,e])
  have ap:=h.apart j k hj hk hn (by rw [s1.1,s2.1])
  rw [s1.1] at ap
  exact jgo (h.ne at_ ha) n1 n2 (h.back at_ j ha hj s1.1) (h.back at_ k ha hk s2.1) ap
 have oD:=jcG h ha (S:=fun k=>decide (lA (lg B k) =lB (lg B at_)) &&vL u first k) (fun k hk=>by simp only [jig,decide_eq_true_eq] at hk;exact hk.1)
 have oC:=jcG h ha (S:=wD B u (lB (lg B at_))) (fun k hk=>by simp only [wD,jig,decide_eq_true_eq] at hk;exact hk.2)
 have sD:=OW oD (jih _)
 have sC:=OW oC (jih _)
 have cd:∀k,wD B u (lB (lg B at_)) k=true→(decide (lA (lg B k) =lB (lg B at_)) &&vL u first k) =true:=fun k hk=>by
  simp only [wD,vL,jig,ji4,decide_eq_true_eq] at hk⊢
  exact⟨hk.2, .inl hk.1⟩
 have dc:∀k,k≠first→(decide (lA (lg B k) =lB (lg B at_)) &&vL u first k) =true→wD B u (lB (lg B at_)) k=true:=fun k hn hk=>by
  simp only [wD,vL,jig,ji4,decide_eq_true_eq] at hk⊢
  exact⟨hk.2.resolve_right hn,hk.1⟩
 have nf:wD B u (lB (lg B at_)) first=false:=by simp [wD,hu]
 by_cases hv:lB (lg B at_) =lA (lg B first)
 ·
  have hD: (decide (lA (lg B first) =lB (lg B at_)) &&vL u first first) =true:=by simp [vL,hv]
  unfold Ba y5 zF
  rw [hb]
  rw [decide_eq_true hv,jix]
  unfold XE
  cases eD:VY (fun k=>decide (lA (lg B k) =lB (lg B at_)) &&vL u first k) (ltS B (lB (lg B at_)) (lA (lg B at_))) B.length with
  | none=>
   have this: (decide (lA (lg B first) =lB (lg B at_)) &&vL u first first) =false:=sD.1 eD first hf
   rw [hD] at this
   cases this
  | some m=>
   have mD:=sD.2 m eD
   simp only
   cases eC:VY (wD B u (lB (lg B at_))) (ltS B (lB (lg B at_)) (lA (lg B at_))) B.length with
   | none=>
    have hno:=sC.1 eC
    simp only [if_true]
    by_cases hm:m=first
    ·rw [if_pos hm]
    ·have:=hno m mD.le
     rw [dc m hm mD.mem] at this
     cases this
   | some m'=>
    have mC:=sC.2 m' eC
    simp only
    have hm':m'≠first:=fun e=>by have:=mC.mem;rw [e,nf] at this;cases this
    by_cases hm:m=first
    ·rw [if_pos hm]
     have:=mD.min m' mC.le (cd m' mC.mem) (by rw [hm];exact hm')
     rw [hm] at this
     rw [if_pos this]
    ·rw [if_neg hm]
     have e1:m=m':=Decidable.byContradiction fun k=>by
      have a1:=mD.min m' mC.le (cd m' mC.mem) (Ne.symm k)
      have a2:=mC.min m mD.le (dc m hm mD.mem) k
      have:=oC.asym m m' mD.le mC.le (dc m hm mD.mem) mC.mem a1
      rw [a2] at this
      cases this
     have a3:=mD.min first hf hD (Ne.symm hm)
     have a4:=oD.asym m first mD.le hf mD.mem hD a3
     subst e1
     show some m=if ltS B (lB (lg B at_)) (lA (lg B at_)) first m=true then none else some m
     rw [a4]
     rfl
 ·unfold Ba y5
  rw [hb,decide_eq_false hv,jiC,if_neg (by simp)]
  unfold XE
  have e1:VY (fun k=>decide (lA (lg B k) =lB (lg B at_)) &&vL u first k) (ltS B (lB (lg B at_)) (lA (lg B at_))) B.length=VY (wD B u (lB (lg B at_))) (ltS B (lB (lg B at_)) (lA (lg B at_))) B.length:=by
   refine Lm fun k hk=> ?_
   by_cases e:k=first
   ·subst e
    rw [nf,decide_eq_false (fun k=>hv k.symm),jiC]
   ·unfold wD vL
    rw [decide_eq_false e,Bool.or_false,Bool.and_comm]
  rw [e1]
  cases eC:VY (wD B u (lB (lg B at_))) (ltS B (lB (lg B at_)) (lA (lg B at_))) B.length with
  | none=>rfl
  | some m=>
   have mC:=UQ eC
   have:m≠first:=fun e=>by have:=mC.2;rw [e,nf] at this;cases this
   simp only
   rw [if_neg this]
def W4 (u:List Bool) :Nat:= (u.filter (fun b=> !b)).length
def uK (B:List Leg) (first:Nat) :Nat→List Bool→Nat→List Pn→List Bool×List Pn
 | 0,u,_,ps=> (u,ps)
 | f+1,u,a,ps=>match y5 B (u.set a true) first a with
  | none=> (u.set a true,ps++ [lA (lg B a)])
  | some m=>uK B first f (u.set a true) m (ps++ [lA (lg B a)])
def kL (B:List Leg) :Nat→List Bool×List (List Pn)
 | 0=> (List.replicate B.length false,[])
 | k+1=>if yw (kL B k).1 k=true then kL B k else((uK B k (W4 (kL B k).1) (kL B k).1 k []).1,(kL B k).2++ [(uK B k (W4 (kL B k).1) (kL B k).1 k []).2])
def KG (B:List Leg) :List (List Pn) := (kL B B.length).2
theorem Gn {u:List Bool} {a k:Nat} (ha:a<u.length) :yw (u.set a true) k= (decide (k=a) || yw u k) :=by
 unfold yw
 by_cases e:k=a
 ·subst e;simp [List.getD,ha]
 ·simp [List.getD,List.getElem?_set,Ne.symm e,e]
theorem Xh:∀ {u:List Bool} {a:Nat},a<u.length→yw u a=false→W4 (u.set a true) +1=W4 u
 | [],a,h,_=>absurd h (by simp)
 | b::u,0,_,hb=>by
  have:b=false:=by simpa [yw] using hb
  subst this
  simp [W4]
 | b::u,a+1,h,hb=>by
  have hb':yw u a=false:=by simpa [yw] using hb
  have:=Xh (u:=u) (a:=a) (by simpa using h) hb'
  unfold W4 at*
  cases b<;>simp only [List.set_cons_succ,List.filter_cons,Bool.not_true,Bool.not_false,if_true,jjg,if_false,jim] <;>omega
theorem IP {B:List Leg} {u:List Bool} {first a m:Nat} (h:y5 B u first a=some m) :m<B.length∧yw u m=false:=by
 unfold y5 at h
 split at h
 ·cases h
 ·have:=UQ h
  refine⟨this.1,?_⟩
  have h2:=this.2
  simp only [wD,jig,ji2] at h2
  exact h2.1
structure RunI (B:List Leg) (first:Nat) (u0 u:List Bool) (a:Nat) (ps:List Pn) :Prop where
 eq:uK B first (W4 u0) u0 first [] =uK B first (W4 u) u a ps
 len:u.length=B.length
 la:a<B.length
 free:yw u a=false
 used:a=first∨yw u first=true
theorem RunI.start {B:List Leg} {first:Nat} {u:List Bool} (hl:u.length=B.length) (hf:first<B.length) (h:yw u first=false) :RunI B first u u first [] :=⟨rfl,hl,hf,h, .inl rfl⟩
theorem RunI.pos {B:List Leg} {first:Nat} {u0 u:List Bool} {a:Nat} {ps:List Pn} (h:RunI B first u0 u a ps) :W4 u=W4 (u.set a true) +1:= (Xh (by rw [h.len];exact h.la) h.free).symm
theorem RunI.first {B:List Leg} {first:Nat} {u0 u:List Bool} {a:Nat} {ps:List Pn} (h:RunI B first u0 u a ps) :yw (u.set a true) first=true:=by
 rw [Gn (by rw [h.len];exact h.la)]
 rcases h.used with e | e
 ·simp [e]
 ·simp [e]
theorem RunI.stop {B:List Leg} {first:Nat} {u0 u:List Bool} {a:Nat} {ps:List Pn} (h:RunI B first u0 u a ps) (hs:y5 B (u.set a true) first a=none) :uK B first (W4 u0) u0 first [] = (u.set a true,ps++ [lA (lg B a)]) :=by
 rw [h.eq,h.pos,uK,hs]
theorem RunI.more {B:List Leg} {first:Nat} {u0 u:List Bool} {a m:Nat} {ps:List Pn} (h:RunI B first u0 u a ps) (hs:y5 B (u.set a true) first a=some m) :RunI B first u0 (u.set a true) m (ps++ [lA (lg B a)]) :=by
 have hm:=IP hs
 exact⟨by rw [h.eq,h.pos,uK,hs],by rw [jjv];exact h.len,hm.1,hm.2, .inr h.first⟩
theorem Iu {B:List Leg} {first:Nat} :∀f u a ps,(uK B first f u a ps).1.length=u.length∧(uK B first f u a ps).2.length≤ps.length+f
 | 0,u,a,ps=>⟨rfl,jih _⟩
 | f+1,u,a,ps=>by
  unfold uK
  split
  ·exact⟨by simp,by simp⟩
  ·have:=Iu (B:=B) (first:=first) f (u.set a true) (by assumption) (ps++ [lA (lg B a)])
   rw [jjv,jif] at this
   exact⟨this.1,by have:=this.2;simp only [jim,jiH] at this;omega⟩
theorem y6 {B:List Leg} :∀k,(kL B k).1.length=B.length
 | 0=>by simp [kL]
 | k+1=>by
  unfold kL
  split
  ·exact y6 k
  ·rw [(Iu _ _ _ _).1]
   exact y6 k
theorem FD (u:List Bool) :W4 u≤u.length:=jjV _ _
theorem CB {B:List Leg} {first:Nat} {p:Pn} :∀f u a ps,p∈(uK B first f u a ps).2→a<B.length→p∈ps∨∃j,j<B.length∧p=lA (lg B j)
 | 0,u,a,ps,h,_=> .inl h
 | f+1,u,a,ps,h,ha=>by
  unfold uK at h
  split at h
  ·simp only [jiv,jik] at h
   rcases h with h | h
   ·exact .inl h
   ·exact .inr ⟨a,ha,h⟩
  ·rename_i m hm
   rcases CB f _ _ _ h (IP hm).1 with h | h
   ·simp only [jiv,jik] at h
    rcases h with h | h
    ·exact .inl h
    ·exact .inr ⟨a,ha,h⟩
   ·exact .inr h
theorem jde {B:List Leg} {first:Nat} :∀f u a ps,ps≠ []∨0<f→(uK B first f u a ps).2≠ []
 | 0,u,a,ps,h=>h.resolve_right Om
 | f+1,u,a,ps,_=>by
  unfold uK
  split
  ·simp
  ·exact jde f _ _ _ (.inl (by simp))
theorem y7 {B:List Leg} :∀k,k≤B.length→(kL B k).2.length≤k∧∀r∈(kL B k).2,0<r.length∧r.length≤B.length∧∀p∈r,∃j,j<B.length∧p=lA (lg B j)
 | 0,_=>⟨jih _,fun r hr=>by cases hr⟩
 | k+1,hk=>by
  have ih:=y7 (B:=B) k Om
  unfold kL
  split
  ·exact⟨Nat.le_succ_of_le ih.1,ih.2⟩
  ·rename_i hu
   refine⟨by simp only [jif,jim,jiH];omega,fun r hr=> ?_⟩
   simp only [jiv,jik] at hr
   rcases hr with hr | rfl
   ·exact ih.2 r hr
   ·have hl:=y6 (B:=B) k
    have hc:=FD (kL B k).1
    have hp:0<W4 (kL B k).1:=by
     have:=Xh (u:= (kL B k).1) (a:=k) Om (by simpa using hu)
     omega
    have h1:=Iu (B:=B) (first:=k) (W4 (kL B k).1) (kL B k).1 k []
    have h2:=jde (B:=B) (first:=k) (W4 (kL B k).1) (kL B k).1 k [] (.inr hp)
    refine⟨List.length_pos_iff.2 h2,by have:=h1.2;simp only [jiH] at this;omega,fun p hp=> ?_⟩
    rcases CB (B:=B) _ _ _ _ hp (show k<B.length by omega) with h | h
    ·cases h
    ·exact h
end Go.Proofs.YtpncbbcmoiiipaaGreat
namespace Go.Proofs.YtpncbbcmoiiipaaGreat
open Go Go.Shelf
def YK:Go.Shelf.Ren:=⟨fun | 6=>222 | 15=>210 | 14=>266 | 28=>259 | 29=>260 | 20=>283 | 21=>284 | 22=>285 | 23=>286 | 24=>287 | 25=>288 | 26=>289 | 27=>290 | 46=>297 | 47=>276 | 48=>277 | 49=>298 | 50=>299 | 57=>301 | n=>n,fun | 22=>106 | 24=>131 | 25=>247 | 3=>3 | 39=>206 | 0=>0 | 53=>270 | 55=>171 | 4=>4 | 46=>264 | 45=>263 | 50=>227 | 5=>5 | 9=>9 | 66=>290 | 70=>294 | 76=>306 | 77=>307 | n=>n,fun | n=>n⟩
theorem jdo:Go.Proofs.SlLaysF0.n6 Tryz.prog YK:= {
 mixed:=by kernel_rfl
 f6:=⟨Tryz.f222.name,by decide,Tryz.func222.trans (congrArg some Kr)⟩
 f14:=⟨Tryz.f266.name,by decide,Tryz.func266.trans (congrArg some Kr)⟩
 f15:=Tryz.func210.trans (congrArg some Kr)
 f20:=⟨Tryz.f283.name,by decide,Tryz.func283.trans (congrArg some Kr)⟩
 f21:=⟨Tryz.f284.name,by decide,Tryz.func284.trans (congrArg some Kr)⟩
 f22:=⟨Tryz.f285.name,by decide,Tryz.func285.trans (congrArg some Kr)⟩
 f23:=⟨Tryz.f286.name,by decide,Tryz.func286.trans (congrArg some Kr)⟩
 f24:=⟨Tryz.f287.name,by decide,Tryz.func287.trans (congrArg some Kr)⟩
 f25:=⟨Tryz.f288.name,by decide,Tryz.func288.trans (congrArg some Kr)⟩
 f26:=⟨Tryz.f289.name,by decide,Tryz.func289.trans (congrArg some Kr)⟩
 f27:=⟨Tryz.f290.name,by decide,Tryz.func290.trans (congrArg some Kr)⟩
 f28:=Tryz.func259.trans (congrArg some Kr)
 f29:=Tryz.func260.trans (congrArg some Kr)
 f46:=⟨Tryz.f297.name,by decide,Tryz.func297.trans (congrArg some Kr)⟩
 f47:=Tryz.func276.trans (congrArg some Kr)
 f48:=Tryz.func277.trans (congrArg some Kr)
 f49:=⟨Tryz.f298.name,by decide,Tryz.func298.trans (congrArg some Kr)⟩
 f50:=⟨Tryz.f299.name,by decide,Tryz.func299.trans (congrArg some Kr)⟩
 f57:=⟨Tryz.f301.name,by decide,Tryz.func301.trans (congrArg some Kr)⟩
 t0:=Tryz.underlying0
 a0:=Tryz.isAgg0
 z0:=Tryz.sizeOf0
 v0:=Tryz.zeroValue0
 t3:=Tryz.underlying3
 a3:=Tryz.isAgg3
 z3:=Tryz.sizeOf3
 v3:=Tryz.zeroValue3
 t4:=Tryz.underlying4
 a4:=Tryz.isAgg4
 z4:=Tryz.sizeOf4
 v4:=Tryz.zeroValue4
 t5:=Tryz.underlying5
 a5:=Tryz.isAgg5
 z5:=Tryz.sizeOf5
 v5:=Tryz.zeroValue5
 t9:=Tryz.underlying9
 a9:=Tryz.isAgg9
 z9:=Tryz.sizeOf9
 v9:=Tryz.zeroValue9
 t22:=Tryz.underlying106
 a22:=Tryz.isAgg106
 z22:=Tryz.sizeOf106
 v22:=Tryz.zeroValue106
 t25:=Tryz.underlying247
 a25:=Tryz.isAgg247
 z25:=Tryz.sizeOf247
 v25:=Tryz.zeroValue247
 t39:=Tryz.underlying206
 a39:=Tryz.isAgg206
 z39:=Tryz.sizeOf206
 v39:=Tryz.zeroValue206
 t45:=Tryz.underlying263
 a45:=Tryz.isAgg263
 z45:=Tryz.sizeOf263
 v45:=Tryz.zeroValue263
 t46:=Tryz.underlying264
 a46:=Tryz.isAgg264
 z46:=Tryz.sizeOf264
 v46:=Tryz.zeroValue264
 t50:=Tryz.underlying227
 a50:=Tryz.isAgg227
 z50:=Tryz.sizeOf227
 v50:=Tryz.zeroValue227
 t53:=Tryz.underlying270
 a53:=Tryz.isAgg270
 z53:=Tryz.sizeOf270
 v53:=Tryz.zeroValue270
 t55:=Tryz.underlying171
 a55:=Tryz.isAgg171
 z55:=Tryz.sizeOf171
 v55:=Tryz.zeroValue171
 t66:=Tryz.underlying290
 a66:=Tryz.isAgg290
 z66:=Tryz.sizeOf290
 v66:=Tryz.zeroValue290
 t70:=Tryz.underlying294
 a70:=Tryz.isAgg294
 z70:=Tryz.sizeOf294
 v70:=Tryz.zeroValue294
 t76:=Tryz.underlying306
 a76:=Tryz.isAgg306
 z76:=Tryz.sizeOf306
 v76:=Tryz.zeroValue306
 t77:=Tryz.underlying307
 a77:=Tryz.isAgg307
 z77:=Tryz.sizeOf307
 v77:=Tryz.zeroValue307}
end Go.Proofs.YtpncbbcmoiiipaaGreat
