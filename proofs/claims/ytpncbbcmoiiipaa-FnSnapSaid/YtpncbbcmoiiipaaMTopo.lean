import Derived.Test.YtpncbbcmoiiipaaMCross
set_option linter.unusedVariables false
set_option linter.unusedSimpArgs false
namespace Go.Proofs.Ytpncbbcmoiiipaa
open Go Go.RowKit
def cr (P Q:Pn) :Int:=P.1*Q.2- P.2*Q.1
def ws (P Q:Pn) :Int:=if(P.2≤0∧0<Q.2)∧0<cr P Q then 1 else if(Q.2≤0∧0<P.2)∧cr P Q<0 then-1 else 0
def up (α:Int) (P:Pn) :Int:=if 0<α∧0<P.2 then 1 else 0
theorem QO {a b p:Int} (h:p=a*b) : (0<a∧0<b∧0<p)∨(0<a∧b<0∧p<0)∨(a<0∧0<b∧p<0)∨(a<0∧b<0∧0<p)∨(a=0∧p=0)∨(b=0∧p=0) :=by
 subst h
 rcases Fx a 0 with ha | ha | ha
 ·rcases Fx b 0 with hb | hb | hb
  ·exact .inr (.inr (.inr (.inl ⟨ha,hb,Int.mul_pos_of_neg_of_neg ha hb⟩)))
  ·subst hb;simp
  ·exact .inr (.inr (.inl ⟨ha,hb,FA ha hb⟩))
 ·subst ha;simp
 ·rcases Fx b 0 with hb | hb | hb
  ·exact .inr (.inl ⟨ha,hb,Int.mul_neg_of_pos_of_neg ha hb⟩)
  ·subst hb;simp
  ·exact .inl ⟨ha,hb,Fr ha hb⟩
def Hf (α β:Int) (P:Pn) :Prop:=0<α*P.1+β*P.2
theorem kZ {α β:Int} {P Q:Pn} (hP:Hf α β P) (hQ:Hf α β Q) :ws P Q=up α Q- up α P:=by
 have key:α*cr P Q= (α*P.1+β*P.2) *Q.2- P.2* (α*Q.1+β*Q.2) :=by unfold cr;grind
 unfold Hf at hP hQ
 have h1:=QO (a:=α*P.1+β*P.2) (b:=Q.2) rfl
 have h2:=QO (a:=P.2) (b:=α*Q.1+β*Q.2) rfl
 have h3:=QO (a:=α) (b:=cr P Q) rfl
 unfold ws up
 generalize (α*P.1+β*P.2) *Q.2=x at*
 generalize P.2* (α*Q.1+β*Q.2) =y at*
 generalize α*cr P Q=z at*
 generalize α*P.1+β*P.2=p at*
 generalize α*Q.1+β*Q.2=q at*
 generalize cr P Q=t at*
 repeat' split
 all_goals omega
theorem Uu {α β:Int} {P P' Q Q':Pn} (h1:Hf α β P) (h2:Hf α β P') (h3:Hf α β Q) (h4:Hf α β Q') :ws P P'+ws P' Q'=ws P Q+ws Q Q':=by
 rw [kZ h1 h2,kZ h2 h4,kZ h1 h3,kZ h3 h4]
 omega
theorem WS {α β:Int} {P Q R S:Pn} (h1:Hf α β P) (h2:Hf α β Q) (h3:Hf α β R) (h4:Hf α β S) :ws P Q+ws Q R+ws R S+ws S P=0:=by
 rw [kZ h1 h2,kZ h2 h3,kZ h3 h4,kZ h4 h1]
 omega
theorem L4 (P Q:Pn) :cr Q P= -cr P Q:=by unfold cr;grind
theorem Ut (P Q:Pn) :ws Q P= -ws P Q:=by
 unfold ws
 rw [L4]
 generalize cr P Q=t
 repeat' split
 all_goals omega
def sb (P Q:Pn) :Pn:= (P.1- Q.1,P.2- Q.2)
def wC (X X' Y Y':Pn) :Int:=ws (sb X Y) (sb X' Y) +ws (sb X' Y) (sb X' Y') +ws (sb X' Y') (sb X Y') +ws (sb X Y') (sb X Y)
theorem xu (X X' Y Y':Pn) :wC X' X Y Y'= -wC X X' Y Y':=by
 unfold wC
 rw [Ut (sb X' Y) (sb X Y),Ut (sb X' Y) (sb X' Y'),Ut (sb X' Y') (sb X Y'),Ut (sb X Y') (sb X Y)]
 have e1:ws (sb X' Y) (sb X' Y') =ws (sb X' Y) (sb X' Y') :=rfl
 omega
theorem O3 (X X' Y:Pn) :cr (sb X Y) (sb X' Y) =tn X X' Y:=by simp only [cr,sb,tn,QX];grind
theorem O4 (X' Y Y':Pn) :cr (sb X' Y) (sb X' Y') =tn Y Y' X':=by simp only [cr,sb,tn,QX];grind
theorem O5 (X X' Y':Pn) :cr (sb X' Y') (sb X Y') = -tn X X' Y':=by simp only [cr,sb,tn,QX];grind
theorem O6 (X Y Y':Pn) :cr (sb X Y') (sb X Y) = -tn Y Y' X:=by simp only [cr,sb,tn,QX];grind
theorem zn (X X' Y Y':Pn) :tn X X' Y'- tn X X' Y= -(tn Y Y' X'- tn Y Y' X) :=by simp only [tn,QX];grind
theorem Ga {P Q:Pn} (h:0<cr P Q) :ws P Q=if P.2≤0∧0<Q.2 then 1 else 0:=by
 unfold ws
 generalize cr P Q=t at*
 repeat' split
 all_goals omega
theorem Yb {X X' Y Y':Pn} (h1:0<tn X X' Y) (h2:tn X X' Y'<0) (h3:tn Y Y' X<0) (h4:0<tn Y Y' X') :wC X X' Y Y'≠0:=by
 have c0:=O3 X X' Y
 have c1:=O4 X' Y Y'
 have c2:=O5 X X' Y'
 have c3:=O6 X Y Y'
 unfold wC
 rw [Ga Om,Ga Om,Ga Om,Ga Om]
 have w1:0< -(tn Y Y' X'*tn X X' Y') :=by have:=Int.mul_neg_of_pos_of_neg h4 h2;omega
 have w2:0<tn Y Y' X*tn X X' Y':=Int.mul_pos_of_neg_of_neg h3 h2
 have w3:0< -(tn Y Y' X*tn X X' Y) :=by have:=FA h3 h1;omega
 have w4:0<tn Y Y' X'*tn X X' Y:=Fr h4 h1
 have hs: -(tn Y Y' X'*tn X X' Y') * (sb X Y).2+tn Y Y' X*tn X X' Y'* (sb X' Y).2+ -(tn Y Y' X*tn X X' Y) * (sb X' Y').2+tn Y Y' X'*tn X X' Y* (sb X Y').2=0:=by
  simp only [tn,QX,sb];grind
 have z0:∀P Q:Pn,P.2=0→Q.2=0→cr P Q=0:=fun P Q e1 e2=>by simp [cr,e1,e2]
 generalize tn Y Y' X'*tn X X' Y'=a1 at*
 generalize tn Y Y' X*tn X X' Y'=a2 at*
 generalize tn Y Y' X*tn X X' Y=a3 at*
 generalize tn Y Y' X'*tn X X' Y=a4 at*
 generalize tn X X' Y=t1 at*
 generalize tn X X' Y'=t2 at*
 generalize tn Y Y' X=t3 at*
 generalize tn Y Y' X'=t4 at*
 generalize sb X Y=P0 at*
 generalize sb X' Y=P1 at*
 generalize sb X' Y'=P2 at*
 generalize sb X Y'=P3 at*
 intro hz
 by_cases hp:0<P0.2
 ·have k1:0<P1.2∧0<P2.2∧0<P3.2:=by
   by_cases k3:0<P3.2<;>by_cases k2:0<P2.2<;>by_cases k1:0<P1.2<;>simp [hp,k1,k2,k3,Int.not_le.2,FO.1] at hz⊢<;>omega
  have m0:=Fr w1 hp
  have m1:=Fr w2 k1.1
  have m2:=Fr w3 k1.2.1
  have m3:=Fr w4 k1.2.2
  omega
 ·have k1:P1.2≤0∧P2.2≤0∧P3.2≤0:=by
   by_cases k3:0<P3.2<;>by_cases k2:0<P2.2<;>by_cases k1:0<P1.2<;> (try omega) <;>exfalso<;>revert hz<;> (repeat' split) <;>omega
  have m0:=QO (a:= -a1) (b:=P0.2) rfl
  have m1:=QO (a:=a2) (b:=P1.2) rfl
  have m2:=QO (a:= -a3) (b:=P2.2) rfl
  have m3:=QO (a:=a4) (b:=P3.2) rfl
  have e0:P0.2=0:=by omega
  have e1:P1.2=0:=by omega
  have:=z0 P0 P1 e0 e1
  omega
theorem ZK (a b p:Pn) :tn b a p= -tn a b p:=by simp only [tn,QX];grind
theorem Zc {X X' Y Y':Pn} (h:J4 X X' Y Y'=true) :wC X X' Y Y'≠0:=by
 have hd:=zn X X' Y Y'
 obtain ⟨h1,h2⟩ :=QS.1 h
 rcases h1 with h1 | h1
 ·have f1:=ZK X X' Y
  have f2:=ZK X X' Y'
  have:=Yb (X:=X') (X':=X) (Y:=Y) (Y':=Y') Om Om Om Om
  rw [xu] at this
  omega
 ·exact Yb Om Om Om Om
theorem Y3 {a b p:Pn} (hab:a≠b) (ht:tn a b p=0) (hn:VP a b p≠true) :∃m n:Int,0<m∧0<n∧m* (a.1- p.1) =n* (b.1- p.1)∧m* (a.2- p.2) =n* (b.2- p.2) :=by
 have ht': (b.1- a.1) * (p.2- a.2) = (b.2- a.2) * (p.1- a.1) :=by simp only [tn,QX] at ht;omega
 have hn':¬((min a.1 b.1≤p.1∧p.1≤max a.1 b.1)∧min a.2 b.2≤p.2∧p.2≤max a.2 b.2) :=fun h=>hn (kW.2 ⟨ht,h.1,h.2⟩)
 by_cases h1:p.1<a.1∧p.1<b.1
 ·exact⟨b.1- p.1,a.1- p.1,by omega,by omega,Fg ..,by grind⟩
 ·by_cases h2:a.1<p.1∧b.1<p.1
  ·exact⟨p.1- b.1,p.1- a.1,by omega,by omega,by grind,by grind⟩
  ·by_cases h3:p.2<a.2∧p.2<b.2
   ·exact⟨b.2- p.2,a.2- p.2,by omega,by omega,by grind,Fg ..⟩
   ·by_cases h4:a.2<p.2∧b.2<p.2
    ·exact⟨p.2- b.2,p.2- a.2,by omega,by omega,by grind,by grind⟩
    ·exact absurd ⟨⟨by omega,by omega⟩,by omega,by omega⟩ hn'
theorem V6 {a b p q:Pn} (hab:a≠b) (ht:tn a b p=0) (hn:VP a b p≠true) (h1:¬(0<tn p q a∧0<tn p q b)) (h2:¬(tn p q a<0∧tn p q b<0)) :tn p q a=0∧tn p q b=0:=by
 obtain ⟨m,n,hm,hn',e1,e2⟩ :=Y3 hab ht hn
 have key:m*tn p q a=n*tn p q b:=by
  have g1:m*tn p q a= (q.1- p.1) * (m* (a.2- p.2)) - (q.2- p.2) * (m* (a.1- p.1)) :=by simp only [tn,QX];grind
  have g2:n*tn p q b= (q.1- p.1) * (n* (b.2- p.2)) - (q.2- p.2) * (n* (b.1- p.1)) :=by simp only [tn,QX];grind
  rw [g1,g2,e1,e2]
 have s1:=QO (a:=m) (b:=tn p q a) rfl
 have s2:=QO (a:=n) (b:=tn p q b) rfl
 omega
theorem Us (p q a:Pn) :tn q p a= -tn p q a:=by simp only [tn,QX];grind
structure Off (X X' Y Y':Pn) :Prop where
 x:X≠X'
 y:Y≠Y'
 nn1:VP X X' Y≠true
 nn2:VP X X' Y'≠true
 nn3:Go.Proofs.Ytpncbbcmoiiipaa.VP Y Y' X≠true
 nn4:Go.Proofs.Ytpncbbcmoiiipaa.VP Y Y' X'≠true
theorem YM {p q x1 x2 y1 y2 k j:Int} (hk:0<k) (hj:0<j) (e1:k*x1=j*y1) (e2:k*x2=j*y2) (h:0<p*y1+q*y2) :0<p*x1+q*x2:=by
 have e:k* (p*x1+q*x2) =j* (p*y1+q*y2) :=by
  have:k* (p*x1+q*x2) =p* (k*x1) +q* (k*x2) :=by grind
  rw [this,e1,e2]
  grind
 have s1:=QO (a:=k) (b:=p*x1+q*x2) rfl
 have s2:=Fr hj h
 omega
theorem GB {X X' Y Y':Pn} (h:Off X X' Y Y') (hs:J4 X X' Y Y'≠true) :wC X X' Y Y'=0:=by
 have g0:∀Z W:Pn,-(X'.1- X.1) * (Z.2- W.2) + (X'.2- X.2) * (Z.1- W.1) =tn X X' W- tn X X' Z:=fun Z W=>by simp only [tn,QX];grind
 have g1:∀Z W:Pn,(Y'.1- Y.1) * (Z.2- W.2) + -(Y'.2- Y.2) * (Z.1- W.1) =tn Y Y' Z- tn Y Y' W:=fun Z W=>by simp only [tn,QX];grind
 have x0:tn X X' X=0:=by simp only [tn,QX];grind
 have x1:tn X X' X'=0:=by simp only [tn,QX];grind
 have y0:tn Y Y' Y=0:=by simp only [tn,QX];grind
 have y1:tn Y Y' Y'=0:=by simp only [tn,QX];grind
 by_cases a1:0<tn X X' Y∧0<tn X X' Y'
 ·refine WS (α:=X'.2- X.2) (β:= -(X'.1- X.1)) ?_ ?_ ?_ ?_<;>simp only [Hf,sb]
  ·have:=g0 X Y;omega
  ·have:=g0 X' Y;omega
  ·have:=g0 X' Y';omega
  ·have:=g0 X Y';omega
 by_cases a2:tn X X' Y<0∧tn X X' Y'<0
 ·have n1:∀Z W:Pn,-(X'.2- X.2) * (Z.1- W.1) + (X'.1- X.1) * (Z.2- W.2) =tn X X' Z- tn X X' W:=fun Z W=>by simp only [tn,QX];grind
  refine WS (α:= -(X'.2- X.2)) (β:=X'.1- X.1) ?_ ?_ ?_ ?_<;>simp only [Hf,sb]
  ·have:=n1 X Y;omega
  ·have:=n1 X' Y;omega
  ·have:=n1 X' Y';omega
  ·have:=n1 X Y';omega
 by_cases a3:0<tn Y Y' X∧0<tn Y Y' X'
 ·refine WS (α:= -(Y'.2- Y.2)) (β:=Y'.1- Y.1) ?_ ?_ ?_ ?_<;>simp only [Hf,sb]
  ·have:=g1 X Y;omega
  ·have:=g1 X' Y;omega
  ·have:=g1 X' Y';omega
  ·have:=g1 X Y';omega
 by_cases a4:tn Y Y' X<0∧tn Y Y' X'<0
 ·have n1:∀Z W:Pn,(Y'.2- Y.2) * (Z.1- W.1) + -(Y'.1- Y.1) * (Z.2- W.2) =tn Y Y' W- tn Y Y' Z:=fun Z W=>by simp only [tn,QX];grind
  refine WS (α:=Y'.2- Y.2) (β:= -(Y'.1- Y.1)) ?_ ?_ ?_ ?_<;>simp only [Hf,sb]
  ·have:=n1 X Y;omega
  ·have:=n1 X' Y;omega
  ·have:=n1 X' Y';omega
  ·have:=n1 X Y';omega
 have f1:=Us Y Y' X
 have f2:=Us Y Y' X'
 have f3:=Us X X' Y
 have f4:=Us X X' Y'
 have hd:=zn X X' Y Y'
 have all0:tn X X' Y=0∧tn X X' Y'=0∧tn Y Y' X=0∧tn Y Y' X'=0:=by
  have k1:tn X X' Y=0→tn Y Y' X=0∧tn Y Y' X'=0:=fun e=>V6 h.x e h.nn1 a3 a4
  have k2:tn X X' Y'=0→tn Y' Y X=0∧tn Y' Y X'=0:=fun e=>V6 h.x e h.nn2 Om Om
  have k3:tn Y Y' X=0→tn X X' Y=0∧tn X X' Y'=0:=fun e=>V6 h.y e h.nn3 a1 a2
  have k4:tn Y Y' X'=0→tn X' X Y=0∧tn X' X Y'=0:=fun e=>V6 h.y e h.nn4 Om Om
  have hs':=fun e=>hs (QS.2 e)
  by_cases z1:tn X X' Y=0
  ·have:=k1 z1;have:=k3 this.1;omega
  ·by_cases z2:tn X X' Y'=0
   ·have:=k2 z2;have:=k3 Om;omega
   ·by_cases z3:tn Y Y' X=0
    ·have:=k3 z3;omega
    ·by_cases z4:tn Y Y' X'=0
     ·have:=k4 z4;omega
     ·exact absurd ⟨by omega,by omega⟩ hs'
 obtain ⟨m,n,hm,hn,e1,e2⟩ :=Y3 h.x all0.1 h.nn1
 obtain ⟨m',n',hm',hn',e1',e2'⟩ :=Y3 h.y all0.2.2.1 h.nn3
 obtain ⟨m'',n'',hm'',hn'',e1'',e2''⟩ :=Y3 h.y all0.2.2.2 h.nn4
 have hne:X.1- Y.1≠0∨X.2- Y.2≠0:=by
  by_cases k:X.1- Y.1=0
  ·refine .inr fun k2=>h.nn1 ?_
   have:Y=X:=Prod.ext Om Om
   rw [this]
   exact wb X X'
  ·exact .inl k
 have hq:0< (X.1- Y.1) * (X.1- Y.1) + (X.2- Y.2) * (X.2- Y.2) :=by
  have s1:=QO (a:=X.1- Y.1) (b:=X.1- Y.1) rfl
  have s2:=QO (a:=X.2- Y.2) (b:=X.2- Y.2) rfl
  omega
 have neg:∀ {k j x y z:Int},k* (x- z) =j* (y- z)→j* (z- y) =k* (z- x) :=fun {k j x y z} e=>by
  have g1:j* (z- y) = -(j* (y- z)) :=by grind
  have g2:k* (z- x) = -(k* (x- z)) :=by grind
  omega
 have hb:0< (X.1- Y.1) * (X'.1- Y.1) + (X.2- Y.2) * (X'.2- Y.2) :=YM hn hm e1.symm e2.symm hq
 refine WS (α:=X.1- Y.1) (β:=X.2- Y.2) hq hb ?_ ?_
 ·exact YM hn'' hm'' (neg e1'') (neg e2'') hb
 ·exact YM hn' hm' (neg e1') (neg e2') hq
end Go.Proofs.Ytpncbbcmoiiipaa
