import Derived.Test.YtpncbbcmoiiipaaMHot
import Derived.Test.YtpncbbcmoiiipaaMPix
set_option linter.unusedVariables false
set_option linter.unusedSimpArgs false
namespace Go.Proofs.Ytpncbbcmoiiipaa
open Go Go.RowKit
theorem QS {a b c d:Pn} :J4 a b c d=true↔((tn a b c<0∧0<tn a b d)∨(0<tn a b c∧tn a b d<0))∧((tn c d a<0∧0<tn c d b)∨(0<tn c d a∧tn c d b<0)) :=by
 simp only [J4,DL,decide_eq_true_eq,VW]
theorem Uo {n d r:Int} (hd:0<d) :WI n d=r↔(2*r- 1) *d≤2*n∧2*n< (2*r+1) *d:=by
 have h1:=Int.emod_nonneg n (show d≠0 by omega)
 have h2:=Int.emod_lt_of_pos n hd
 have h3:=Int.mul_ediv_add_emod n d
 have key: (2*WI n d- 1) *d≤2*n∧2*n< (2*WI n d+1) *d:=by
  unfold WI
  split
  ·have e: (2* (n/d+1) - 1) *d=2* (d* (n/d)) +d:=by grind
   have e': (2* (n/d+1) +1) *d=2* (d* (n/d)) +3*d:=by grind
   omega
  ·have e: (2* (n/d) - 1) *d=2* (d* (n/d)) - d:=by grind
   have e': (2* (n/d) +1) *d=2* (d* (n/d)) +d:=by grind
   omega
 constructor
 ·intro h;rw [←h];exact key
 ·rintro⟨k1,k2⟩
  have a1: (2*r- 1) *d< (2*WI n d+1) *d:=by omega
  have a2: (2*WI n d- 1) *d< (2*r+1) *d:=by omega
  have b1:=Fj a1 (FD hd)
  have b2:=Fj a2 (FD hd)
  omega
theorem WJ {n d n' d':Int} (hd:0<d) (hd':0<d') (h:n*d'=n'*d) :WI n d=WI n' d':=by
 obtain ⟨k1,k2⟩ := (Uo (n:=n') hd').1 rfl
 rw [Uo hd]
 generalize WI n' d'=r at*
 have e1: (2*r- 1) *d'*d≤2*n'*d:=DJ k1 (FD hd)
 have e2:2*n'*d< (2*r+1) *d'*d:=D4 k2 hd
 have e3:2*n'*d=2*n*d':=by grind
 rw [e3] at e1 e2
 have e4: (2*r- 1) *d'*d= (2*r- 1) *d*d':=by grind
 have e5: (2*r+1) *d'*d= (2*r+1) *d*d':=by grind
 rw [e4] at e1
 rw [e5] at e2
 exact⟨Fa e1 hd',Fj e2 (FD hd')⟩
theorem zK {x y u v n d n' d':Int} (hd:d≠0) (hd':d'≠0) (h: (x*d+ (y- x) *n) *d'= (u*d'+ (v- u) *n') *d) :yX x y n d=yX u v n' d':=by
 unfold yX
 split<;>split
 ·exact WJ Om Om (by grind)
 ·exact WJ Om Om (by grind)
 ·exact WJ Om Om (by grind)
 ·exact WJ Om Om (by grind)
theorem Z3 {a b c d:Pn} (h:Hu a b c d≠0) (h':Hu c d a b≠0) :Xn c d a b=Xn a b c d:=by
 obtain ⟨a1,a2⟩ :=a;obtain ⟨b1,b2⟩ :=b;obtain ⟨c1,c2⟩ :=c;obtain ⟨d1,d2⟩ :=d
 unfold Xn
 refine Prod.ext (zK h' h ?_) (zK h' h ?_)
 ·simp only [UI,WZ,tn,QX];grind
 ·simp only [UI,WZ,tn,QX];grind
def MO (s:Sp) (N D:Int) :Prop:= (s.ln*D<N*s.ld∨(s.ln*D=N*s.ld∧s.lc=true))∧(N*s.hd<s.hn*D∨(N*s.hd=s.hn*D∧s.hc=true))
theorem L5 {s:Sp} {N D:Int} (hD:0<D) (hl:0<s.ld) (hh:0<s.hd) (h:MO s N D) :kn s=true:=by
 obtain ⟨h1,h2⟩ :=h
 simp only [kn,Fu,DL,decide_eq_true_eq]
 rcases h1 with h1 |⟨h1,c1⟩
 ·left
  have:=ke (a:=s.ln) (b:=s.ld) (c:=N) (d:=D) (e:=s.hn) (f:=s.hd) hD hl hh h1 (by rcases h2 with h2 |⟨h2,_⟩ <;>omega)
  omega
 ·rcases h2 with h2 |⟨h2,c2⟩
  ·left
   have:=QB (a:=s.ln) (b:=s.ld) (c:=N) (d:=D) (e:=s.hn) (f:=s.hd) hD hl hh Om h2
   omega
  ·have:=Q2 (a:=s.ln) (b:=s.ld) (c:=N) (d:=D) (e:=s.hn) (f:=s.hd) hD hl hh Om Om
   by_cases e:s.ln*s.hd- s.hn*s.ld=0
   ·exact .inr ⟨⟨e,c1⟩,c2⟩
   ·left;omega
theorem zL {s x:Sp} {N D:Int} (h:MO s N D) (hx:MO x N D) :MO (Jj s x) N D:=by
 have hl:MO (JQ s x) N D:=by unfold JQ;split;exact⟨hx.1,h.2⟩;exact h
 unfold Jj qD
 split
 ·exact⟨hl.1,hx.2⟩
 ·exact hl
theorem Xp {N D:Int} (h0:0≤N) (h1:N≤D) :MO K8 N D:=by
 unfold MO K8
 simp
 omega
def OY (f d lo N D:Int) :Prop:=lo*D≤f*D+d*N∧f*D+d*N< (lo+2) *D
theorem Xo {f d lo N D:Int} (hD:0<D) (h0:0≤N) (h1:N≤D) (h:OY f d lo N D) :kw f d lo=true∧MO (qB f d lo) N D:=by
 obtain ⟨k1,k2⟩ :=h
 unfold kw qB
 by_cases p:0<d
 ·rw [if_pos p]
  refine⟨by simp;omega,?_,?_⟩
  ·have e: (lo- f) *D=lo*D- f*D:=by grind
   have e':N*d=d*N:=Fg _ _
   show(lo- f) *D<N*d∨((lo- f) *D=N*d∧true=true)
   rcases Int.lt_or_eq_of_le (show(lo- f) *D≤N*d by omega) with h | h
   ·exact .inl h
   ·exact .inr ⟨h,rfl⟩
  ·left
   have e: (lo+2- f) *D= (lo+2) *D- f*D:=by grind
   have e':N*d=d*N:=Fg _ _
   show N*d< (lo+2- f) *D
   omega
 ·rw [if_neg p]
  by_cases q:d<0
  ·rw [if_pos q]
   refine⟨by simp;omega,?_,?_⟩
   ·left
    have e: (f- lo- 2) *D=f*D- (lo+2) *D:=by grind
    have e':N* -d= -(d*N) :=by grind
    show(f- lo- 2) *D<N* -d
    omega
   ·have e: (f- lo) *D=f*D- lo*D:=by grind
    have e':N* -d= -(d*N) :=by grind
    show N* -d< (f- lo) *D∨(N* -d= (f- lo) *D∧true=true)
    rcases Int.lt_or_eq_of_le (show N* -d≤(f- lo) *D by omega) with h | h
    ·exact .inl h
    ·exact .inr ⟨h,rfl⟩
  ·rw [if_neg q]
   have d0:d=0:=by omega
   subst d0
   have e:f*D+0*N=f*D:=by omega
   rw [e] at k1 k2
   have g1:=Fa k1 hD
   have g2:=Fj k2 (FD hD)
   exact⟨by simp;omega,Xp h0 h1⟩
theorem Oi {f d lo f' d' lo' N D:Int} (hD:0<D) (h0:0≤N) (h1:N≤D) (h:OY f d lo N D) (h':OY f' d' lo' N D) :UN f d lo f' d' lo'=true:=by
 obtain ⟨a1,a2⟩ :=Xo hD h0 h1 h
 obtain ⟨b1,b2⟩ :=Xo hD h0 h1 h'
 have p1:=Qh KI (qM f d lo)
 have p2:=Qh p1 (qM f' d' lo')
 rw [UN,a1,b1,L5 hD p2.1 p2.2 (zL (zL (Xp h0 h1) a2) b2)]
 rfl
def OV (a b p:Pn) :Bool:=KD a.1 a.2&&KD b.1 b.2&&KD p.1 p.2&&UN (2*a.1) (2* (b.1- a.1)) (2*p.1- 1) (2*a.2) (2* (b.2- a.2)) (2*p.2- 1)
theorem MS {a b p:Pn} {N D:Int} (ha:bd2 a) (hb:bd2 b) (hp:bd2 p) (hD:0<D) (h0:0≤N) (h1:N≤D)
  (hx: (2*p.1- 1) *D≤2* (a.1*D+ (b.1- a.1) *N)∧2* (a.1*D+ (b.1- a.1) *N) < (2*p.1+1) *D)
  (hy: (2*p.2- 1) *D≤2* (a.2*D+ (b.2- a.2) *N)∧2* (a.2*D+ (b.2- a.2) *N) < (2*p.2+1) *D) :OV a b p=true:=by
 rw [OV,kE ha,kE hb,kE hp,FB,FB,FB]
 refine Oi hD h0 h1 ?_ ?_
 ·have e:2*a.1*D+2* (b.1- a.1) *N=2* (a.1*D+ (b.1- a.1) *N) :=by grind
  have e2: (2*p.1- 1+2) *D= (2*p.1+1) *D:=by grind
  unfold OY
  rw [e,e2]
  exact hx
 ·have e:2*a.2*D+2* (b.2- a.2) *N=2* (a.2*D+ (b.2- a.2) *N) :=by grind
  have e2: (2*p.2- 1+2) *D= (2*p.2+1) *D:=by grind
  unfold OY
  rw [e,e2]
  exact hy
theorem XC {x y N D B r:Int} (hx: -B≤x∧x≤B) (hy: -B≤y∧y≤B) (hD:0<D) (h0:0≤N) (h1:N≤D) (h: (2*r- 1) *D≤2* (x*D+ (y- x) *N)∧2* (x*D+ (y- x) *N) < (2*r+1) *D) : -B≤r∧r≤B:=by
 have e:x*D+ (y- x) *N=x* (D- N) +y*N:=by grind
 rw [e] at h
 have a1:x* (D- N)≤B* (D- N) :=DJ hx.2 Om
 have a2:y*N≤B*N:=DJ hy.2 h0
 have a3: -B* (D- N)≤x* (D- N) :=DJ hx.1 Om
 have a4: -B*N≤y*N:=DJ hy.1 h0
 have e1:B* (D- N) +B*N=B*D:=by grind
 have e2: -B* (D- N) + -B*N= -B*D:=by grind
 have k1: (2*r- 1) *D≤(2*B) *D:=by
  have:2*B*D=2* (B*D) :=by grind
  omega
 have k2: (2* -B) *D< (2*r+1) *D:=by
  have:2* -B*D=2* (-B*D) :=by grind
  omega
 have m1:=Fa k1 hD
 have m2:=Fj k2 (FD hD)
 omega
theorem Z5 {x y n d:Int} (hd:d≠0) :∃N D:Int,0<D∧((d<0∧N= -n∧D= -d)∨(0<d∧N=n∧D=d))∧(2*yX x y n d- 1) *D≤2* (x*D+ (y- x) *N)∧2* (x*D+ (y- x) *N) < (2*yX x y n d+1) *D:=by
 unfold yX
 split
 ·exact⟨-n,-d,by omega, .inl ⟨by assumption,rfl,rfl⟩,(Uo Om).1 rfl⟩
 ·exact⟨n,d,by omega, .inr ⟨by omega,rfl,rfl⟩,(Uo Om).1 rfl⟩
theorem Gn {a b c d:Pn} (ha:bd2 a) (hb:bd2 b) (hs:J4 a b c d=true) :bd2 (Xn a b c d)∧OV a b (Xn a b c d) =true:=by
 have hD:=KZ hs
 have hs2:= (QS.1 hs).2
 rw [←WZ a c d] at hs2
 have e:=UI a b c d
 rw [←WZ a c d] at e
 obtain ⟨N,D,h0,h1,hx⟩ :=Z5 (x:=a.1) (y:=b.1) (n:=M7 a c d) hD
 obtain ⟨N',D',_,h1',hy⟩ :=Z5 (x:=a.2) (y:=b.2) (n:=M7 a c d) hD
 obtain rfl:N'=N:=by omega
 obtain rfl:D'=D:=by omega
 have n0:0≤N'∧N'≤D':=by omega
 have m1:=XC ha.1 hb.1 h0 n0.1 n0.2 hx
 have m2:=XC ha.2 hb.2 h0 n0.1 n0.2 hy
 have hp:bd2 (Xn a b c d) :=⟨m1,m2⟩
 exact⟨hp,MS ha hb hp h0 n0.1 n0.2 hx hy⟩
theorem Oz {a b p:Pn} (ha:bd2 a) (hb:bd2 b) (h:VP a b p=true) :bd2 p∧OV a b p=true:=by
 obtain ⟨ht,hx,hy⟩ :=kW.1 h
 have hp:bd2 p:=by
  obtain ⟨⟨a1,a2⟩,a3,a4⟩ :=ha
  obtain ⟨⟨b1,b2⟩,b3,b4⟩ :=hb
  refine⟨⟨?_,?_⟩,?_,?_⟩ <;>omega
 have ht': (b.1- a.1) * (p.2- a.2) = (b.2- a.2) * (p.1- a.1) :=by simp only [tn,QX] at ht;omega
 have key:∀N D:Int,0<D→0≤N→N≤D→a.1*D+ (b.1- a.1) *N=p.1*D→a.2*D+ (b.2- a.2) *N=p.2*D→OV a b p=true:=by
  intro N D h0 h1 h2 e1 e2
  refine MS ha hb hp h0 h1 h2 ?_ ?_
  ·rw [e1]
   have g1: (2*p.1- 1) *D=2* (p.1*D) - D:=by grind
   have g2: (2*p.1+1) *D=2* (p.1*D) +D:=by grind
   omega
  ·rw [e2]
   have g1: (2*p.2- 1) *D=2* (p.2*D) - D:=by grind
   have g2: (2*p.2+1) *D=2* (p.2*D) +D:=by grind
   omega
 refine⟨hp,?_⟩
 rcases Fx a.1 b.1 with h1 | h1 | h1
 ·exact key (p.1- a.1) (b.1- a.1) Om Om Om (by grind) (by grind)
 ·rcases Fx a.2 b.2 with h2 | h2 | h2
  ·exact key (p.2- a.2) (b.2- a.2) Om Om Om (by grind) (by grind)
  ·have e1:p.1=a.1:=by omega
   have e2:p.2=a.2:=by omega
   exact key 0 1 Om Om Om Om Om
  ·exact key (a.2- p.2) (a.2- b.2) Om Om Om (by grind) (by grind)
 ·exact key (a.1- p.1) (a.1- b.1) Om Om Om (by grind) (by grind)
end Go.Proofs.Ytpncbbcmoiiipaa
