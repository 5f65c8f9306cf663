import Derived.Test.YtbahojdbmmjkcaaGreatPCross
import Derived.Test.YtbahojdbmmjkcaaGreatPEnds
set_option linter.unusedVariables false
set_option linter.unusedSimpArgs false
namespace Go.Proofs.YtbahojdbmmjkcaaGreat
open Go Go.RowKit
variable {P Q X X' Y Y' a b g p:Pn} {V d f lo u u' α β:Int} {s x:Sp}
def cr (P Q:Pn) :Int:=P.1*Q.2- P.2*Q.1
def ws (P Q:Pn) :Int:=if(P.2≤0∧0<Q.2)∧0<cr P Q then 1 else if(Q.2≤0∧0<P.2)∧cr P Q<0 then-1 else 0
def up (α:Int) (P:Pn) :Int:=if 0<α∧0<P.2 then 1 else 0
theorem kx {a b p:Int} (h:p=a*b) : (0<a∧0<b∧0<p)∨(0<a∧b<0∧p<0)∨(a<0∧0<b∧p<0)∨(a<0∧b<0∧0<p)∨(a=0∧p=0)∨(b=0∧p=0) :=by
 subst h
 rcases jhp a 0 with ha | ha | ha
 ·rcases jhp b 0 with hb | hb | hb
  ·exact .inr (.inr (.inr (.inl ⟨ha,hb,Int.mul_pos_of_neg_of_neg ha hb⟩)))
  ·subst hb;simp
  ·exact .inr (.inr (.inl ⟨ha,hb,jhI ha hb⟩))
 ·subst ha;simp
 ·rcases jhp b 0 with hb | hb | hb
  ·exact .inr (.inl ⟨ha,hb,Int.mul_neg_of_pos_of_neg ha hb⟩)
  ·subst hb;simp
  ·exact .inl ⟨ha,hb,jhm ha hb⟩
def Hf (α β:Int) (P:Pn) :Prop:=0<α*P.1+β*P.2
theorem Ux (hP:Hf α β P) (hQ:Hf α β Q) :ws P Q=up α Q- up α P:=by
 have key:α*cr P Q= (α*P.1+β*P.2) *Q.2- P.2* (α*Q.1+β*Q.2) :=by unfold cr;grind
 unfold Hf at hP hQ
 have h1:=kx (a:=α*P.1+β*P.2) (b:=Q.2) rfl
 have h2:=kx (a:=P.2) (b:=α*Q.1+β*Q.2) rfl
 have h3:=kx (a:=α) (b:=cr P Q) rfl
 unfold ws up
 generalize (α*P.1+β*P.2) *Q.2=x at*
 generalize P.2* (α*Q.1+β*Q.2) =y at*
 generalize α*cr P Q=z at*
 generalize α*P.1+β*P.2=p at*
 generalize α*Q.1+β*Q.2=q at*
 generalize cr P Q=t at*
 repeat' split
 all_goals omega
theorem Lr {P' Q':Pn} (h1:Hf α β P) (h2:Hf α β P') (h3:Hf α β Q) (h4:Hf α β Q') :ws P P'+ws P' Q'=ws P Q+ws Q Q':=by
 rw [Ux h1 h2,Ux h2 h4,Ux h1 h3,Ux h3 h4]
 omega
theorem XC {R S:Pn} (h1:Hf α β P) (h2:Hf α β Q) (h3:Hf α β R) (h4:Hf α β S) :ws P Q+ws Q R+ws R S+ws S P=0:=by
 rw [Ux h1 h2,Ux h2 h3,Ux h3 h4,Ux h4 h1]
 omega
theorem jcP (P Q:Pn) :cr Q P= -cr P Q:=by unfold cr;grind
theorem Lq (P Q:Pn) :ws Q P= -ws P Q:=by
 unfold ws
 rw [jcP]
 generalize cr P Q=t
 repeat' split
 all_goals omega
def sb (P Q:Pn) :Pn:= (P.1- Q.1,P.2- Q.2)
def Zi (X X' Y Y':Pn) :Int:=ws (sb X Y) (sb X' Y) +ws (sb X' Y) (sb X' Y') +ws (sb X' Y') (sb X Y') +ws (sb X Y') (sb X Y)
theorem Tg (X X' Y Y':Pn) :Zi X' X Y Y'= -Zi X X' Y Y':=by
 unfold Zi
 rw [Lq (sb X' Y) (sb X Y),Lq (sb X' Y) (sb X' Y'),Lq (sb X' Y') (sb X Y'),Lq (sb X Y') (sb X Y)]
 have e1:ws (sb X' Y) (sb X' Y') =ws (sb X' Y) (sb X' Y') :=rfl
 omega
theorem jfG (X X' Y:Pn) :cr (sb X Y) (sb X' Y) =tn X X' Y:=by simp only [cr,sb,tn,Kc];grind
theorem jfH (X' Y Y':Pn) :cr (sb X' Y) (sb X' Y') =tn Y Y' X':=by simp only [cr,sb,tn,Kc];grind
theorem jfI (X X' Y':Pn) :cr (sb X' Y') (sb X Y') = -tn X X' Y':=by simp only [cr,sb,tn,Kc];grind
theorem jfJ (X Y Y':Pn) :cr (sb X Y') (sb X Y) = -tn Y Y' X:=by simp only [cr,sb,tn,Kc];grind
theorem FY (X X' Y Y':Pn) :tn X X' Y'- tn X X' Y= -(tn Y Y' X'- tn Y Y' X) :=by simp only [tn,Kc];grind
theorem PO (h:0<cr P Q) :ws P Q=if P.2≤0∧0<Q.2 then 1 else 0:=by
 unfold ws
 generalize cr P Q=t at*
 repeat' split
 all_goals omega
theorem BG (h1:0<tn X X' Y) (h2:tn X X' Y'<0) (h3:tn Y Y' X<0) (h4:0<tn Y Y' X') :Zi X X' Y Y'≠0:=by
 have c0:=jfG X X' Y
 have c1:=jfH X' Y Y'
 have c2:=jfI X X' Y'
 have c3:=jfJ X Y Y'
 unfold Zi
 rw [PO Om,PO Om,PO Om,PO Om]
 have w1:0< -(tn Y Y' X'*tn X X' Y') :=by have:=Int.mul_neg_of_pos_of_neg h4 h2;omega
 have w2:0<tn Y Y' X*tn X X' Y':=Int.mul_pos_of_neg_of_neg h3 h2
 have w3:0< -(tn Y Y' X*tn X X' Y) :=by have:=jhI h3 h1;omega
 have w4:0<tn Y Y' X'*tn X X' Y:=jhm h4 h1
 have hs: -(tn Y Y' X'*tn X X' Y') * (sb X Y).2+tn Y Y' X*tn X X' Y'* (sb X' Y).2+ -(tn Y Y' X*tn X X' Y) * (sb X' Y').2+tn Y Y' X'*tn X X' Y* (sb X Y').2=0:=by
  simp only [tn,Kc,sb];grind
 have z0:∀P Q:Pn,P.2=0→Q.2=0→cr P Q=0:=fun P Q e1 e2=>by simp [cr,e1,e2]
 generalize tn Y Y' X'*tn X X' Y'=a1 at*
 generalize tn Y Y' X*tn X X' Y'=a2 at*
 generalize tn Y Y' X*tn X X' Y=a3 at*
 generalize tn Y Y' X'*tn X X' Y=a4 at*
 generalize tn X X' Y=t1 at*
 generalize tn X X' Y'=t2 at*
 generalize tn Y Y' X=t3 at*
 generalize tn Y Y' X'=t4 at*
 generalize sb X Y=P0 at*
 generalize sb X' Y=P1 at*
 generalize sb X' Y'=P2 at*
 generalize sb X Y'=P3 at*
 intro hz
 by_cases hp:0<P0.2
 ·have k1:0<P1.2∧0<P2.2∧0<P3.2:=by
   by_cases k3:0<P3.2<;>by_cases k2:0<P2.2<;>by_cases k1:0<P1.2<;>simp [hp,k1,k2,k3,Int.not_le.2,jhG.1] at hz⊢<;>omega
  have m0:=jhm w1 hp
  have m1:=jhm w2 k1.1
  have m2:=jhm w3 k1.2.1
  have m3:=jhm w4 k1.2.2
  omega
 ·have k1:P1.2≤0∧P2.2≤0∧P3.2≤0:=by
   by_cases k3:0<P3.2<;>by_cases k2:0<P2.2<;>by_cases k1:0<P1.2<;> (try omega) <;>exfalso<;>revert hz<;> (repeat' split) <;>omega
  have m0:=kx (a:= -a1) (b:=P0.2) rfl
  have m1:=kx (a:=a2) (b:=P1.2) rfl
  have m2:=kx (a:= -a3) (b:=P2.2) rfl
  have m3:=kx (a:=a4) (b:=P3.2) rfl
  have e0:P0.2=0:=by omega
  have e1:P1.2=0:=by omega
  have:=z0 P0 P1 e0 e1
  omega
theorem Sj (a b p:Pn) :tn b a p= -tn a b p:=by simp only [tn,Kc];grind
theorem Rx (h:qU X X' Y Y'=true) :Zi X X' Y Y'≠0:=by
 have hd:=FY X X' Y Y'
 obtain ⟨h1,h2⟩ :=KS.1 h
 rcases h1 with h1 | h1
 ·have f1:=Sj X X' Y
  have f2:=Sj X X' Y'
  have:=BG (X:=X') (X':=X) (Y:=Y) (Y':=Y') Om Om Om Om
  rw [Tg] at this
  omega
 ·exact BG Om Om Om Om
theorem Gb (hab:a≠b) (ht:tn a b p=0) (hn:UJ a b p≠true) :∃m n:Int,0<m∧0<n∧m* (a.1- p.1) =n* (b.1- p.1)∧m* (a.2- p.2) =n* (b.2- p.2) :=by
 have ht': (b.1- a.1) * (p.2- a.2) = (b.2- a.2) * (p.1- a.1) :=by simp only [tn,Kc] at ht;omega
 have hn':¬((min a.1 b.1≤p.1∧p.1≤max a.1 b.1)∧min a.2 b.2≤p.2∧p.2≤max a.2 b.2) :=fun h=>hn (Kf.2 ⟨ht,h.1,h.2⟩)
 by_cases h1:p.1<a.1∧p.1<b.1
 ·exact⟨b.1- p.1,a.1- p.1,by omega,by omega,jha ..,by grind⟩
 ·by_cases h2:a.1<p.1∧b.1<p.1
  ·exact⟨p.1- b.1,p.1- a.1,by omega,by omega,by grind,by grind⟩
  ·by_cases h3:p.2<a.2∧p.2<b.2
   ·exact⟨b.2- p.2,a.2- p.2,by omega,by omega,by grind,jha ..⟩
   ·by_cases h4:a.2<p.2∧b.2<p.2
    ·exact⟨p.2- b.2,p.2- a.2,by omega,by omega,by grind,by grind⟩
    ·exact absurd ⟨⟨by omega,by omega⟩,by omega,by omega⟩ hn'
theorem zE {q:Pn} (hab:a≠b) (ht:tn a b p=0) (hn:UJ a b p≠true) (h1:¬(0<tn p q a∧0<tn p q b)) (h2:¬(tn p q a<0∧tn p q b<0)) :tn p q a=0∧tn p q b=0:=by
 obtain ⟨m,n,hm,hn',e1,e2⟩ :=Gb hab ht hn
 have key:m*tn p q a=n*tn p q b:=by
  have g1:m*tn p q a= (q.1- p.1) * (m* (a.2- p.2)) - (q.2- p.2) * (m* (a.1- p.1)) :=by simp only [tn,Kc];grind
  have g2:n*tn p q b= (q.1- p.1) * (n* (b.2- p.2)) - (q.2- p.2) * (n* (b.1- p.1)) :=by simp only [tn,Kc];grind
  rw [g1,g2,e1,e2]
 have s1:=kx (a:=m) (b:=tn p q a) rfl
 have s2:=kx (a:=n) (b:=tn p q b) rfl
 omega
theorem Lo (p q a:Pn) :tn q p a= -tn p q a:=by simp only [tn,Kc];grind
structure Off (X X' Y Y':Pn) :Prop where
 x:X≠X'
 y:Y≠Y'
 nn1:UJ X X' Y≠true
 nn2:UJ X X' Y'≠true
 nn3:Go.Proofs.YtbahojdbmmjkcaaGreat.UJ Y Y' X≠true
 nn4:Go.Proofs.YtbahojdbmmjkcaaGreat.UJ Y Y' X'≠true
theorem DK {p q x1 x2 y1 y2 k j:Int} (hk:0<k) (hj:0<j) (e1:k*x1=j*y1) (e2:k*x2=j*y2) (h:0<p*y1+q*y2) :0<p*x1+q*x2:=by
 have e:k* (p*x1+q*x2) =j* (p*y1+q*y2) :=by
  have:k* (p*x1+q*x2) =p* (k*x1) +q* (k*x2) :=by grind
  rw [this,e1,e2]
  grind
 have s1:=kx (a:=k) (b:=p*x1+q*x2) rfl
 have s2:=jhm hj h
 omega
theorem Cq (h:Off X X' Y Y') (hs:qU X X' Y Y'≠true) :Zi X X' Y Y'=0:=by
 have g0:∀Z W:Pn,-(X'.1- X.1) * (Z.2- W.2) + (X'.2- X.2) * (Z.1- W.1) =tn X X' W- tn X X' Z:=fun Z W=>by simp only [tn,Kc];grind
 have g1:∀Z W:Pn,(Y'.1- Y.1) * (Z.2- W.2) + -(Y'.2- Y.2) * (Z.1- W.1) =tn Y Y' Z- tn Y Y' W:=fun Z W=>by simp only [tn,Kc];grind
 have x0:tn X X' X=0:=by simp only [tn,Kc];grind
 have x1:tn X X' X'=0:=by simp only [tn,Kc];grind
 have y0:tn Y Y' Y=0:=by simp only [tn,Kc];grind
 have y1:tn Y Y' Y'=0:=by simp only [tn,Kc];grind
 by_cases a1:0<tn X X' Y∧0<tn X X' Y'
 ·refine XC (α:=X'.2- X.2) (β:= -(X'.1- X.1)) ?_ ?_ ?_ ?_<;>simp only [Hf,sb]
  ·have:=g0 X Y;omega
  ·have:=g0 X' Y;omega
  ·have:=g0 X' Y';omega
  ·have:=g0 X Y';omega
 by_cases a2:tn X X' Y<0∧tn X X' Y'<0
 ·have n1:∀Z W:Pn,-(X'.2- X.2) * (Z.1- W.1) + (X'.1- X.1) * (Z.2- W.2) =tn X X' Z- tn X X' W:=fun Z W=>by simp only [tn,Kc];grind
  refine XC (α:= -(X'.2- X.2)) (β:=X'.1- X.1) ?_ ?_ ?_ ?_<;>simp only [Hf,sb]
  ·have:=n1 X Y;omega
  ·have:=n1 X' Y;omega
  ·have:=n1 X' Y';omega
  ·have:=n1 X Y';omega
 by_cases a3:0<tn Y Y' X∧0<tn Y Y' X'
 ·refine XC (α:= -(Y'.2- Y.2)) (β:=Y'.1- Y.1) ?_ ?_ ?_ ?_<;>simp only [Hf,sb]
  ·have:=g1 X Y;omega
  ·have:=g1 X' Y;omega
  ·have:=g1 X' Y';omega
  ·have:=g1 X Y';omega
 by_cases a4:tn Y Y' X<0∧tn Y Y' X'<0
 ·have n1:∀Z W:Pn,(Y'.2- Y.2) * (Z.1- W.1) + -(Y'.1- Y.1) * (Z.2- W.2) =tn Y Y' W- tn Y Y' Z:=fun Z W=>by simp only [tn,Kc];grind
  refine XC (α:=Y'.2- Y.2) (β:= -(Y'.1- Y.1)) ?_ ?_ ?_ ?_<;>simp only [Hf,sb]
  ·have:=n1 X Y;omega
  ·have:=n1 X' Y;omega
  ·have:=n1 X' Y';omega
  ·have:=n1 X Y';omega
 have f1:=Lo Y Y' X
 have f2:=Lo Y Y' X'
 have f3:=Lo X X' Y
 have f4:=Lo X X' Y'
 have hd:=FY X X' Y Y'
 have all0:tn X X' Y=0∧tn X X' Y'=0∧tn Y Y' X=0∧tn Y Y' X'=0:=by
  have k1:tn X X' Y=0→tn Y Y' X=0∧tn Y Y' X'=0:=fun e=>zE h.x e h.nn1 a3 a4
  have k2:tn X X' Y'=0→tn Y' Y X=0∧tn Y' Y X'=0:=fun e=>zE h.x e h.nn2 Om Om
  have k3:tn Y Y' X=0→tn X X' Y=0∧tn X X' Y'=0:=fun e=>zE h.y e h.nn3 a1 a2
  have k4:tn Y Y' X'=0→tn X' X Y=0∧tn X' X Y'=0:=fun e=>zE h.y e h.nn4 Om Om
  have hs':=fun e=>hs (KS.2 e)
  by_cases z1:tn X X' Y=0
  ·have:=k1 z1;have:=k3 this.1;omega
  ·by_cases z2:tn X X' Y'=0
   ·have:=k2 z2;have:=k3 Om;omega
   ·by_cases z3:tn Y Y' X=0
    ·have:=k3 z3;omega
    ·by_cases z4:tn Y Y' X'=0
     ·have:=k4 z4;omega
     ·exact absurd ⟨by omega,by omega⟩ hs'
 obtain ⟨m,n,hm,hn,e1,e2⟩ :=Gb h.x all0.1 h.nn1
 obtain ⟨m',n',hm',hn',e1',e2'⟩ :=Gb h.y all0.2.2.1 h.nn3
 obtain ⟨m'',n'',hm'',hn'',e1'',e2''⟩ :=Gb h.y all0.2.2.2 h.nn4
 have hne:X.1- Y.1≠0∨X.2- Y.2≠0:=by
  by_cases k:X.1- Y.1=0
  ·refine .inr fun k2=>h.nn1 ?_
   have:Y=X:=Prod.ext Om Om
   rw [this]
   exact x8 X X'
  ·exact .inl k
 have hq:0< (X.1- Y.1) * (X.1- Y.1) + (X.2- Y.2) * (X.2- Y.2) :=by
  have s1:=kx (a:=X.1- Y.1) (b:=X.1- Y.1) rfl
  have s2:=kx (a:=X.2- Y.2) (b:=X.2- Y.2) rfl
  omega
 have neg:∀ {k j x y z:Int},k* (x- z) =j* (y- z)→j* (z- y) =k* (z- x) :=fun {k j x y z} e=>by
  have g1:j* (z- y) = -(j* (y- z)) :=by grind
  have g2:k* (z- x) = -(k* (x- z)) :=by grind
  omega
 have hb:0< (X.1- Y.1) * (X'.1- Y.1) + (X.2- Y.2) * (X'.2- Y.2) :=DK hn hm e1.symm e2.symm hq
 refine XC (α:=X.1- Y.1) (β:=X.2- Y.2) hq hb ?_ ?_
 ·exact DK hn'' hm'' (neg e1'') (neg e2'') hb
 ·exact DK hn' hm' (neg e1') (neg e2') hq
def QL (s x:Sp) :Prop:=x.hn*s.ld<s.ln*x.hd∨(x.hn*s.ld=s.ln*x.hd∧(s.lc=false∨x.hc=false))
theorem jdp (h:K5 s=false) :QL s s:=by
 simp only [K5,Bool.or_eq_false_iff,jh5,decide_eq_false_iff_not] at h
 unfold QL
 by_cases e:s.ln*s.hd- s.hn*s.ld=0
 ·refine .inr ⟨by omega,?_⟩
  rcases h.2 with(h2 | h2) | h2
  ·exact absurd e h2
  ·exact .inl h2
  ·exact .inr h2
 ·exact .inl Om
theorem jdd (s x:Sp) : ((J3 s x).ln=s.ln∧(J3 s x).ld=s.ld∧(J3 s x).lc=s.lc)∨((J3 s x).ln=x.ln∧(J3 s x).ld=x.ld∧(J3 s x).lc=x.lc) :=by
 unfold J3 QV qN
 repeat' split
 all_goals simp
theorem jam (s x:Sp) : ((J3 s x).hn=s.hn∧(J3 s x).hd=s.hd∧(J3 s x).hc=s.hc)∨((J3 s x).hn=x.hn∧(J3 s x).hd=x.hd∧(J3 s x).hc=x.hc) :=by
 unfold J3 QV qN
 repeat' split
 all_goals simp
theorem NE {y:Sp} (h:QL (J3 s x) y) :QL s y∨QL x y:=by
 unfold QL at*
 rcases jdd s x with⟨e1,e2,e3⟩ |⟨e1,e2,e3⟩ <;>rw [e1,e2,e3] at h
 ·exact .inl h
 ·exact .inr h
theorem xE {y:Sp} (h:QL y (J3 s x)) :QL y s∨QL y x:=by
 unfold QL at*
 rcases jam s x with⟨e1,e2,e3⟩ |⟨e1,e2,e3⟩ <;>rw [e1,e2,e3] at h
 ·exact .inl h
 ·exact .inr h
def MW (u u' V:Int) :Sp:=⟨u,V,true,u',V,true⟩
theorem jgm (hV:0<V) (h1:u≤u') (hd:d≠0) (h:QL (MW u u' V) (QD f d lo)∨QL (QD f d lo) (MW u u' V)) :
  (∀t,t=u∨t=u'→2*V≤f*V+t*d- lo*V)∨(∀t,t=u∨t=u'→f*V+t*d- lo*V<0) :=by
 have e1: (lo+2- f) *V=lo*V+2*V- f*V:=by grind
 have e2: (lo- f) *V=lo*V- f*V:=by grind
 have e3: (f- lo) *V=f*V- lo*V:=by grind
 have e4: (f- lo- 2) *V=f*V- lo*V- 2*V:=by grind
 rcases Int.lt_or_gt_of_ne hd with hn | hp
 ·have m:u'*d≤u*d:=jhN h1 Om
  have e5:u* -d= -(u*d) :=Int.mul_neg ..
  have e6:u'* -d= -(u'*d) :=Int.mul_neg ..
  unfold QL QD MW at h
  rw [if_neg Om,if_pos hn] at h
  simp only [jhP,or_false,or_self,and_false,or_true,and_true] at h
  rw [e3,e4,e5,e6] at h
  rcases h with h | h
  ·refine .inr fun t ht=> ?_
   rcases ht with rfl | rfl<;>omega
  ·refine .inl fun t ht=> ?_
   rcases ht with rfl | rfl<;>omega
 ·have m:u*d≤u'*d:=jgz h1 Om
  unfold QL QD MW at h
  rw [if_pos hp] at h
  simp only [jhP,or_false,false_or,or_self,and_false,or_true,and_true] at h
  rw [e1,e2] at h
  rcases h with h | h
  ·refine .inl fun t ht=> ?_
   rcases ht with rfl | rfl<;>omega
  ·refine .inr fun t ht=> ?_
   rcases ht with rfl | rfl<;>omega
theorem Fw (h:0<d) :QD f d lo=⟨lo- f,d,true,lo+2- f,d,false⟩ :=if_pos h
theorem Fv (h:d<0) :QD f d lo=⟨f- lo- 2,-d,false,f- lo,-d,true⟩ :=by unfold QD;rw [if_neg Om,if_pos h]
theorem jf6 {f' d' lo':Int} (hV:0<V) (hd:d≠0) (hd':d'≠0) (h:QL (QD f d lo) (QD f' d' lo')) :
  ∃α β:Int,∀t b1 b2,0≤b1→b1<2*V→0≤b2→b2<2*V→0<α* (f*V+t*d- lo*V- b1) +β* (f'*V+t*d'- lo'*V- b2) :=by
 have i1:∀t b1 b2:Int,-d'* (f*V+t*d- lo*V- b1) +d* (f'*V+t*d'- lo'*V- b2) =V* (d* (f'- lo') - d'* (f- lo)) +d'*b1- d*b2:=fun t b1 b2=>by grind
 have i2:∀t b1 b2:Int,d'* (f*V+t*d- lo*V- b1) + -d* (f'*V+t*d'- lo'*V- b2) =V* -(d* (f'- lo') - d'* (f- lo)) - d'*b1+d*b2:=fun t b1 b2=>by grind
 have e1: (lo'+2- f') *d=2*d- d* (f'- lo') :=by grind
 have e2: (lo- f) *d'= -(d'* (f- lo)) :=by grind
 have e3: (f'- lo') *d=d* (f'- lo') :=by grind
 have e4: (lo- f) * -d'=d'* (f- lo) :=by grind
 have e5: (lo'+2- f') * -d=d* (f'- lo') - 2*d:=by grind
 have e6: (f- lo- 2) *d'=d'* (f- lo) - 2*d':=by grind
 have e7: (f'- lo') * -d= -(d* (f'- lo')) :=by grind
 have e8: (f- lo- 2) * -d'=2*d'- d'* (f- lo) :=by grind
 rcases Int.lt_or_gt_of_ne hd with hn | hp<;>rcases Int.lt_or_gt_of_ne hd' with hn' | hp'
 ·refine⟨-d',d,fun t b1 b2 g1 g2 g3 g4=> ?_⟩
  rw [i1]
  rw [Fv hn,Fv hn',QL] at h
  simp only [true_or,and_true] at h
  rw [e7,e8] at h
  have m:=jg5 (show-(2*d')≤d* (f'- lo') - d'* (f- lo) by omega) (show 0≤V by omega)
  have m1:=jhm (show 0< -d' by omega) (show 0<2*V- b1 by omega)
  have m2:=jg9 (show 0≤-d by omega) g3
  have k1:V* -(2*d') = -d'* (2*V- b1) + -(d'*b1) :=by grind
  have k2: -d*b2= -(d*b2) :=Int.neg_mul ..
  omega
 ·refine⟨d',-d,fun t b1 b2 g1 g2 g3 g4=> ?_⟩
  rw [i2]
  rw [Fv hn,Fw hp',QL] at h
  simp only [true_or,and_true] at h
  rw [e5,e6] at h
  have m:=jg5 (show 2*d'- 2*d≤-(d* (f'- lo') - d'* (f- lo)) by omega) (show 0≤V by omega)
  have m1:=jhm hp' (show 0<2*V- b1 by omega)
  have m2:=jhm (show 0< -d by omega) (show 0<2*V- b2 by omega)
  have k1:V* (2*d'- 2*d) =d'* (2*V- b1) + -d* (2*V- b2) +d'*b1- d*b2:=by grind
  omega
 ·refine⟨d',-d,fun t b1 b2 g1 g2 g3 g4=> ?_⟩
  rw [i2]
  rw [Fw hp,Fv hn',QL] at h
  simp only [jhP,or_self,and_false,or_false] at h
  rw [e3,e4] at h
  have m:=jhm hV (show 0< -(d* (f'- lo') - d'* (f- lo)) by omega)
  have m1:=jg9 (show 0≤-d' by omega) g1
  have m2:=jg9 (show 0≤d by omega) g3
  have k2: -d'*b1= -(d'*b1) :=Int.neg_mul ..
  omega
 ·refine⟨-d',d,fun t b1 b2 g1 g2 g3 g4=> ?_⟩
  rw [i1]
  rw [Fw hp,Fw hp',QL] at h
  simp only [jhP,false_or,and_true] at h
  rw [e1,e2] at h
  have m:=jg5 (show 2*d≤d* (f'- lo') - d'* (f- lo) by omega) (show 0≤V by omega)
  have m1:=jhm hp (show 0<2*V- b2 by omega)
  have m2:=jg9 (show 0≤d' by omega) g1
  have k1:V* (2*d) =d* (2*V- b2) +d*b2:=by grind
  omega
def sc (a b:Pn) (u v:Int) :Pn:= (2*a.1*v+u* (2* (b.1- a.1)),2*a.2*v+u* (2* (b.2- a.2)))
def XR (V:Int) (g Y:Pn) :Prop:= ((2*g.1- 1) *V≤Y.1∧Y.1< (2*g.1- 1+2) *V)∧(2*g.2- 1) *V≤Y.2∧Y.2< (2*g.2- 1+2) *V
theorem vk {v:Int} :wB a b p u v↔XR v p (sc a b u v) :=Iff.rfl
def Ls (a b g:Pn) (V u u':Int) :Prop:=∀t v,0<v→u*v≤t*V→t*V≤u'*v→¬wB a b g t v
def El (V:Int) (g X X':Pn) :Prop:=∃α β:Int,∀Z:Pn,Z=X∨Z=X'→∀b1 b2,0≤b1→b1<2*V→0≤b2→b2<2*V→0<α* (Z.1- (2*g.1- 1) *V- b1) +β* (Z.2- (2*g.2- 1) *V- b2)
theorem PE (hx:0<x.hd) (hV:0<V) (h0:0≤u) (h:QL Wi x) :QL (MW u u' V) x:=by
 unfold QL Wi at h
 unfold QL MW
 simp only [jhU,jhE,jhP,false_or] at h⊢
 have m:=jg9 h0 (show 0≤x.hd by omega)
 rcases h with h |⟨h,hc⟩
 ·have:=jhI h hV
  exact .inl Om
 ·rw [h,jhE]
  by_cases k:u*x.hd=0
  ·exact .inr ⟨k.symm,hc⟩
  ·exact .inl Om
theorem Sa (hx:0<x.ld) (hV:0<V) (h1:u'≤V) (h:QL x Wi) :QL x (MW u u' V) :=by
 unfold QL Wi at h
 unfold QL MW
 simp only [jhU,Int.one_mul,jhP,or_false] at h⊢
 have m:=jgz h1 (show 0≤x.ld by omega)
 rcases h with h |⟨h,hc⟩
 ·have:=jg6 h hV
  rw [jha x.ld V] at this
  exact .inl Om
 ·rw [←h]
  rw [jha V x.ld] at m
  by_cases k:u'*x.ld=x.ld*V
  ·exact .inr ⟨k,hc⟩
  ·exact .inl Om
theorem BZ :¬QL (QD f d lo) (QD f d lo) :=by
 rcases jhp d 0 with h | h | h
 ·unfold QD QL
  rw [if_neg Om,if_pos h]
  simp only [true_or,and_true]
  have e: (f- lo- 2) * -d= (f- lo) * -d- 2* -d:=by grind
  omega
 ·subst h
  rw [Vx]
  unfold QL Wi
  simp
 ·unfold QD QL
  rw [if_pos h]
  simp only [jhP,or_true,and_true]
  have e: (lo+2- f) *d= (lo- f) *d+2*d:=by grind
  omega
theorem Pu (hV:0<V) (h0:0≤u) (h1:u≤u') (h2:u'≤V) (h:Kk f d lo=false∨QL (MW u u' V) (QD f d lo)∨QL (QD f d lo) (MW u u' V)) :
  (∀t,t=u∨t=u'→2*V≤f*V+t*d- lo*V)∨(∀t,t=u∨t=u'→f*V+t*d- lo*V<0) :=by
 by_cases hd:d=0
 ·subst hd
  rw [Vx] at h
  have hk:Kk f 0 lo=false:=by
   rcases h with h | h | h
   ·exact h
   ·unfold QL MW Wi at h;simp at h;omega
   ·unfold QL MW Wi at h;simp at h;omega
  unfold Kk at hk
  simp only [decide_true,Bool.not_true,Bool.false_or,jh5,decide_eq_false_iff_not] at hk
  rcases hk with hk | hk
  ·refine .inr fun t _=> ?_
   have:=jg6 (show f<lo by omega) hV
   omega
  ·refine .inl fun t _=> ?_
   have:=jgz (show lo+2≤f by omega) (show 0≤V by omega)
   have e: (lo+2) *V=lo*V+2*V:=by grind
   omega
 ·rcases h with h | h
  ·unfold Kk at h
   rw [decide_eq_false hd] at h
   cases h
  ·exact jgm hV h1 hd h
theorem jgn (h: (∀t,t=u∨t=u'→2*V≤2*a.1*V+t* (2* (b.1- a.1)) - (2*g.1- 1) *V)∨(∀t,t=u∨t=u'→2*a.1*V+t* (2* (b.1- a.1)) - (2*g.1- 1) *V<0)) :El V g (sc a b u V) (sc a b u' V) :=by
 rcases h with h | h
 ·refine⟨1,0,fun Z hZ b1 b2 g1 g2 g3 g4=> ?_⟩
  rw [Int.one_mul,jhE]
  rcases hZ with rfl | rfl
  ·have:=h u (.inl rfl);simp only [sc];omega
  ·have:=h u' (.inr rfl);simp only [sc];omega
 ·refine⟨-1,0,fun Z hZ b1 b2 g1 g2 g3 g4=> ?_⟩
  rw [jhE]
  rcases hZ with rfl | rfl
  ·have:=h u (.inl rfl);simp only [sc];omega
  ·have:=h u' (.inr rfl);simp only [sc];omega
theorem jgo (h: (∀t,t=u∨t=u'→2*V≤2*a.2*V+t* (2* (b.2- a.2)) - (2*g.2- 1) *V)∨(∀t,t=u∨t=u'→2*a.2*V+t* (2* (b.2- a.2)) - (2*g.2- 1) *V<0)) :El V g (sc a b u V) (sc a b u' V) :=by
 rcases h with h | h
 ·refine⟨0,1,fun Z hZ b1 b2 g1 g2 g3 g4=> ?_⟩
  rw [Int.one_mul,jhE]
  rcases hZ with rfl | rfl
  ·have:=h u (.inl rfl);simp only [sc];omega
  ·have:=h u' (.inr rfl);simp only [sc];omega
 ·refine⟨0,-1,fun Z hZ b1 b2 g1 g2 g3 g4=> ?_⟩
  rw [jhE]
  rcases hZ with rfl | rfl
  ·have:=h u (.inl rfl);simp only [sc];omega
  ·have:=h u' (.inr rfl);simp only [sc];omega
theorem xI (hV:0<V) (h0:0≤u) (h1:u≤u') (h2:u'≤V) (h:Ls a b g V u u') :El V g (sc a b u V) (sc a b u' V) :=by
 generalize ef:2*a.1=f
 generalize ed:2* (b.1- a.1) =d
 generalize el:2*g.1- 1=lo
 generalize ef':2*a.2=f'
 generalize ed':2* (b.2- a.2) =d'
 generalize el':2*g.2- 1=lo'
 have hX: (Kk f d lo=false∨QL (MW u u' V) (QD f d lo)∨QL (QD f d lo) (MW u u' V))→El V g (sc a b u V) (sc a b u' V) :=fun h=>jgn (by rw [ef,ed,el];exact Pu hV h0 h1 h2 h)
 have hY: (Kk f' d' lo'=false∨QL (MW u u' V) (QD f' d' lo')∨QL (QD f' d' lo') (MW u u' V))→El V g (sc a b u V) (sc a b u' V) :=fun h=>jgo (by rw [ef',ed',el'];exact Pu hV h0 h1 h2 h)
 by_cases k1:Kk f d lo=false
 ·exact hX (.inl k1)
 by_cases k2:Kk f' d' lo'=false
 ·exact hY (.inl k2)
 simp only [Bool.not_eq_false] at k1 k2
 have pK:0< (MW u u' V).ld∧0< (MW u u' V).hd:=⟨hV,hV⟩
 have pX:=kB f d lo
 have pY:=kB f' d' lo'
 have hno:K5 (J3 (J3 (MW u u' V) (QD f d lo)) (QD f' d' lo')) =false:=by
  rcases Bool.eq_false_or_eq_true (K5 (J3 (J3 (MW u u' V) (QD f d lo)) (QD f' d' lo'))) with e | e
  ·exfalso
   obtain ⟨t,v,hv,hm⟩ :=H5 (Ku (Ku pK pX) pY) e
   rw [U5 (Ku pK pX) pY hv,U5 pK pX hv] at hm
   have g1:u*v≤t*V:=hm.1.1.1.le
   have g2:t*V≤u'*v:=hm.1.1.2.le
   have t0:0≤t:=by
    refine jhG.1 fun k=> ?_
    have:=jhI k hV
    have:=jg9 h0 (show 0≤v by omega)
    omega
   have t1:t≤v:=by
    have k1:=jgz h2 (show 0≤v by omega)
    have k2:t*V≤v*V:=by rw [jha v V];omega
    exact jg8 k2 hV
   refine h t v hv g1 g2 ?_
   unfold wB
   rw [ef,ed,el,ef',ed',el']
   exact⟨(Ut hv t0 t1).1 ⟨k1,hm.1.2⟩,(Ut hv t0 t1).1 ⟨k2,hm.2⟩⟩
  ·exact e
 have hKK:¬QL (MW u u' V) (MW u u' V) :=by
  unfold QL MW
  simp only [jhP,or_self,and_false,or_false]
  have:=jgz h1 (show 0≤V by omega)
  omega
 have hXY:QL (QD f d lo) (QD f' d' lo')→El V g (sc a b u V) (sc a b u' V) :=fun k=>by
  by_cases z:d=0
  ·subst z
   rw [Vx] at k
   exact hY (.inr (.inl (PE pY.2 hV h0 k)))
  ·by_cases z':d'=0
   ·subst z'
    rw [Vx] at k
    exact hX (.inr (.inr (Sa pX.1 hV h2 k)))
   ·obtain ⟨α,β,q⟩ :=jf6 hV z z' k
    refine⟨α,β,fun Z hZ b1 b2 g1 g2 g3 g4=> ?_⟩
    rw [el,el']
    rcases hZ with rfl | rfl
    ·have:=q u b1 b2 g1 g2 g3 g4;simp only [sc];rw [ef,ed,ef',ed'];exact this
    ·have:=q u' b1 b2 g1 g2 g3 g4;simp only [sc];rw [ef,ed,ef',ed'];exact this
 have hYX:QL (QD f' d' lo') (QD f d lo)→El V g (sc a b u V) (sc a b u' V) :=fun k=>by
  by_cases z:d=0
  ·subst z
   rw [Vx] at k
   exact hY (.inr (.inr (Sa pY.1 hV h2 k)))
  ·by_cases z':d'=0
   ·subst z'
    rw [Vx] at k
    exact hX (.inr (.inl (PE pX.2 hV h0 k)))
   ·obtain ⟨α,β,q⟩ :=jf6 hV z' z k
    refine⟨β,α,fun Z hZ b1 b2 g1 g2 g3 g4=> ?_⟩
    rw [el,el']
    rcases hZ with rfl | rfl
    ·have:=q u b2 b1 g3 g4 g1 g2;simp only [sc];rw [ef,ed,ef',ed'];omega
    ·have:=q u' b2 b1 g3 g4 g1 g2;simp only [sc];rw [ef,ed,ef',ed'];omega
 rcases NE (jdp hno) with k | k
 ·rcases NE k with k | k<;>rcases xE k with k | k
  ·rcases xE k with k | k
   ·exact absurd k hKK
   ·exact hX (.inr (.inl k))
  ·exact hY (.inr (.inl k))
  ·rcases xE k with k | k
   ·exact hX (.inr (.inr k))
   ·exact absurd k BZ
  ·exact hXY k
 ·rcases xE k with k | k
  ·rcases xE k with k | k
   ·exact hY (.inr (.inr k))
   ·exact hYX k
  ·exact absurd k BZ
theorem Xh {h h':Pn} (hV:0<V) (hs:El V g X X') (hy:XR V g Y) (hx:XR V h X) (hx':XR V h' X') :
  ∃α β:Int,Hf α β (sb X Y)∧Hf α β (sb X' Y)∧Hf α β (sb h g)∧Hf α β (sb h' g) :=by
 obtain ⟨α,β,q⟩ :=hs
 have box:∀ {p Z:Pn},XR V p Z→(0≤Z.1- (2*p.1- 1) *V∧Z.1- (2*p.1- 1) *V<2*V)∧0≤Z.2- (2*p.2- 1) *V∧Z.2- (2*p.2- 1) *V<2*V:=fun {p Z} h=>by
  have e1: (2*p.1- 1+2) *V= (2*p.1- 1) *V+2*V:=by grind
  have e2: (2*p.2- 1+2) *V= (2*p.2- 1) *V+2*V:=by grind
  obtain ⟨⟨h1,h2⟩,h3,h4⟩ :=h
  rw [e1] at h2
  rw [e2] at h4
  omega
 have by_:=box hy
 have bx:=box hx
 have bx':=box hx'
 have hc:∀p:Pn,0<α* ((2*p.1- 1) *V- (2*g.1- 1) *V) +β* ((2*p.2- 1) *V- (2*g.2- 1) *V)→Hf α β (sb p g) :=fun p k=>by
  have e:α* ((2*p.1- 1) *V- (2*g.1- 1) *V) +β* ((2*p.2- 1) *V- (2*g.2- 1) *V) = (2*V) * (α* (p.1- g.1) +β* (p.2- g.2)) :=by grind
  rw [e] at k
  have s:=kx (a:=2*V) (b:=α* (p.1- g.1) +β* (p.2- g.2)) rfl
  show 0<α* (p.1- g.1) +β* (p.2- g.2)
  omega
 refine⟨α,β,?_,?_,hc h ?_,hc h' ?_⟩
 ·have:=q X (.inl rfl) _ _ by_.1.1 by_.1.2 by_.2.1 by_.2.2
  simp only [Int.sub_sub_self,Hf,sb] at this⊢
  rw [show X.1- (2*g.1- 1) *V- (Y.1- (2*g.1- 1) *V) =X.1- Y.1 by omega,show X.2- (2*g.2- 1) *V- (Y.2- (2*g.2- 1) *V) =X.2- Y.2 by omega] at this
  exact this
 ·have:=q X' (.inr rfl) _ _ by_.1.1 by_.1.2 by_.2.1 by_.2.2
  simp only [Hf,sb] at this⊢
  rw [show X'.1- (2*g.1- 1) *V- (Y.1- (2*g.1- 1) *V) =X'.1- Y.1 by omega,show X'.2- (2*g.2- 1) *V- (Y.2- (2*g.2- 1) *V) =X'.2- Y.2 by omega] at this
  exact this
 ·have:=q X (.inl rfl) _ _ bx.1.1 bx.1.2 bx.2.1 bx.2.2
  rw [show X.1- (2*g.1- 1) *V- (X.1- (2*h.1- 1) *V) = (2*h.1- 1) *V- (2*g.1- 1) *V by omega,show X.2- (2*g.2- 1) *V- (X.2- (2*h.2- 1) *V) = (2*h.2- 1) *V- (2*g.2- 1) *V by omega] at this
  exact this
 ·have:=q X' (.inr rfl) _ _ bx'.1.1 bx'.1.2 bx'.2.1 bx'.2.2
  rw [show X'.1- (2*g.1- 1) *V- (X'.1- (2*h'.1- 1) *V) = (2*h'.1- 1) *V- (2*g.1- 1) *V by omega,show X'.2- (2*g.2- 1) *V- (X'.2- (2*h'.2- 1) *V) = (2*h'.2- 1) *V- (2*g.2- 1) *V by omega] at this
  exact this
theorem YW (h:Hf α β (sb P Q)) :Hf (-α) (-β) (sb Q P) :=by
 unfold Hf sb at*
 have e: -α* (Q.1- P.1) + -β* (Q.2- P.2) =α* (P.1- Q.1) +β* (P.2- Q.2) :=by grind
 simp only
 rw [e]
 exact h
theorem Th {h h' g':Pn} (hV:0<V) (hx:XR V h X) (hx':XR V h' X') (hy:XR V g Y) (hy':XR V g' Y') (s1:El V g X X') (s2:El V g' X X') (s3:El V h Y Y') (s4:El V h' Y Y') :Zi X X' Y Y'=Zi h h' g g':=by
 obtain ⟨α1,β1,a1,a2,a3,a4⟩ :=Xh hV s1 hy hx hx'
 obtain ⟨α2,β2,b1,b2,b3,b4⟩ :=Xh hV s4 hx' hy hy'
 obtain ⟨α3,β3,c1,c2,c3,c4⟩ :=Xh hV s2 hy' hx hx'
 obtain ⟨α4,β4,d1,d2,d3,d4⟩ :=Xh hV s3 hx hy hy'
 have q1:=Lr a1 a2 a3 a4
 have q2:=Lr (YW b1) (YW b2) (YW b3) (YW b4)
 have q3:=Lr c2 c1 c4 c3
 have q4:=Lr (YW d2) (YW d1) (YW d4) (YW d3)
 unfold Zi
 omega
theorem Br {q Z:Pn} (hV:0<V) (h:XR V p Z) (h':XR V q Z) :p=q:=by
 have key:∀ {m n z:Int},(2*n- 1) *V≤z→z< (2*m- 1+2) *V→¬m<n:=by
  intro m n z g1 g2 hmn
  have:=jgz (show 2*m- 1+2≤2*n- 1 by omega) (show 0≤V by omega)
  omega
 have x1:=key h.1.1 h'.1.2
 have x2:=key h'.1.1 h.1.2
 have y1:=key h.2.1 h'.2.2
 have y2:=key h'.2.1 h.2.2
 exact Prod.ext Om Om
theorem jfh (hne:X≠X') (h:UJ X X' Y=true) :∃k j:Int,0<k∧0≤j∧j≤k∧k* (Y.1- X.1) =j* (X'.1- X.1)∧k* (Y.2- X.2) =j* (X'.2- X.2) :=by
 obtain ⟨ht,hx,hy⟩ :=Kf.1 h
 have ht': (X'.1- X.1) * (Y.2- X.2) = (X'.2- X.2) * (Y.1- X.1) :=by simp only [tn,Kc] at ht;omega
 rcases jhp X.1 X'.1 with c | c | c
 ·exact⟨X'.1- X.1,Y.1- X.1,by omega,by omega,by omega,by grind,by grind⟩
 ·rcases jhp X.2 X'.2 with e | e | e
  ·exact⟨X'.2- X.2,Y.2- X.2,by omega,by omega,by omega,by grind,by grind⟩
  ·exact absurd (Prod.ext c e) hne
  ·exact⟨X.2- X'.2,X.2- Y.2,by omega,by omega,by omega,by grind,by grind⟩
 ·exact⟨X.1- X'.1,X.1- Y.1,by omega,by omega,by omega,by grind,by grind⟩
theorem La (hV:0<V) (h1:u≤u') (hne:sc a b u V≠sc a b u' V) (hm:Ls a b g V u u') (hy:XR V g Y) :UJ (sc a b u V) (sc a b u' V) Y≠true:=fun ho=>by
 obtain ⟨k,j,hk,h0,hj,e1,e2⟩ :=jfh hne ho
 have m1:=jg9 h0 (show 0≤u'- u by omega)
 have m2:=jgz hj (show 0≤u'- u by omega)
 refine hm (u*k+j* (u'- u)) (V*k) (jhm hV hk) ?_ ?_ ?_
 ·have e: (u*k+j* (u'- u)) *V=u* (V*k) +j* (u'- u) *V:=by grind
  have:=jg9 m1 (show 0≤V by omega)
  omega
 ·have e: (u*k+j* (u'- u)) *V=u* (V*k) +j* (u'- u) *V:=by grind
  have e':u'* (V*k) =u* (V*k) +k* (u'- u) *V:=by grind
  have:=jgz m2 (show 0≤V by omega)
  omega
 ·rw [vk]
  have f1: (sc a b (u*k+j* (u'- u)) (V*k)).1=k*Y.1:=by
   have:k*Y.1=k* (sc a b u V).1+j* ((sc a b u' V).1- (sc a b u V).1) :=by grind
   rw [this]
   simp only [sc]
   grind
  have f2: (sc a b (u*k+j* (u'- u)) (V*k)).2=k*Y.2:=by
   have:k*Y.2=k* (sc a b u V).2+j* ((sc a b u' V).2- (sc a b u V).2) :=by grind
   rw [this]
   simp only [sc]
   grind
  unfold XR
  rw [f1,f2]
  obtain ⟨⟨g1,g2⟩,g3,g4⟩ :=hy
  have r:∀x:Int,x* (V*k) =k* (x*V) :=fun x=>by grind
  rw [r,r,r,r]
  exact⟨⟨jg5 g1 Om,jh7 g2 hk⟩,jg5 g3 Om,jh7 g4 hk⟩
theorem jbf {c d h h' g':Pn} {w w':Int} (hV:0<V) (hu:0≤u∧u≤u'∧u'≤V) (hw:0≤w∧w≤w'∧w'≤V) (ih:wB a b h u V) (ih':wB a b h' u' V) (ig:wB c d g w V) (ig':wB c d g' w' V) (hne:h≠h') (hne':g≠g') (m1:Ls a b g V u u') (m2:Ls a b g' V u u') (m3:Ls c d h V w w') (m4:Ls c d h' V w w') (hs:qU (sc a b u V) (sc a b u' V) (sc c d w V) (sc c d w' V)≠true) :qU h h' g g'≠true:=fun hc=>by
 have nx:sc a b u V≠sc a b u' V:=fun e=>hne (Br hV (vk.1 ih) (by rw [e];exact vk.1 ih'))
 have ny:sc c d w V≠sc c d w' V:=fun e=>hne' (Br hV (vk.1 ig) (by rw [e];exact vk.1 ig'))
 refine Rx hc ?_
 rw [←Th hV (vk.1 ih) (vk.1 ih') (vk.1 ig) (vk.1 ig') (xI hV hu.1 hu.2.1 hu.2.2 m1) (xI hV hu.1 hu.2.1 hu.2.2 m2) (xI hV hw.1 hw.2.1 hw.2.2 m3) (xI hV hw.1 hw.2.1 hw.2.2 m4)]
 exact Cq ⟨nx,ny,La hV hu.2.1 nx m1 (vk.1 ig),La hV hu.2.1 nx m2 (vk.1 ig'),La hV hw.2.1 ny m3 (vk.1 ih),La hV hw.2.1 ny m4 (vk.1 ih')⟩ hs
end Go.Proofs.YtbahojdbmmjkcaaGreat
