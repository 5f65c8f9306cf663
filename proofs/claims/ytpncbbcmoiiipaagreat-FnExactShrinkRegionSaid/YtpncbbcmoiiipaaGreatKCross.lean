import Derived.Test.YtpncbbcmoiiipaaGreatKHot
import Derived.Test.YtpncbbcmoiiipaaGreatKPix
import Derived.Test.YtpncbbcmoiiipaaGreatKLawKit
set_option linter.unusedVariables false
set_option linter.unusedSimpArgs false
namespace Go.Proofs.YtpncbbcmoiiipaaGreat
open Go Go.RowKit
theorem jfD (a b p:Pn) :tn b a p= -tn a b p:=by simp only [tn,Q8];grind
theorem SM (a b p:Pn) :uO a b p=uO b a p:=by
 have:tn a b p=0↔tn b a p=0:=by have:=jfD a b p;omega
 rw [jiN,KE,KE,this,Int.min_comm,Int.max_comm,Int.min_comm a.2,Int.max_comm a.2]
theorem K4 {a b c d:Pn} :qf a b c d=true↔((tn a b c<0∧0<tn a b d)∨(0<tn a b c∧tn a b d<0))∧((tn c d a<0∧0<tn c d b)∨(0<tn c d a∧tn c d b<0)) :=by
 simp only [qf,jig,decide_eq_true_eq,Zi]
theorem Mp {n d r:Int} (hd:0<d) :ZV n d=r↔(2*r- 1) *d≤2*n∧2*n< (2*r+1) *d:=by
 have h1:=Int.emod_nonneg n (show d≠0 by omega)
 have h2:=Int.emod_lt_of_pos n hd
 have h3:=Int.mul_ediv_add_emod n d
 have key: (2*ZV n d- 1) *d≤2*n∧2*n< (2*ZV n d+1) *d:=by
  unfold ZV
  split
  ·have e: (2* (n/d+1) - 1) *d=2* (d* (n/d)) +d:=by grind
   have e': (2* (n/d+1) +1) *d=2* (d* (n/d)) +3*d:=by grind
   omega
  ·have e: (2* (n/d) - 1) *d=2* (d* (n/d)) - d:=by grind
   have e': (2* (n/d) +1) *d=2* (d* (n/d)) +d:=by grind
   omega
 constructor
 ·intro h;rw [←h];exact key
 ·rintro⟨k1,k2⟩
  have a1: (2*r- 1) *d< (2*ZV n d+1) *d:=by omega
  have a2: (2*ZV n d- 1) *d< (2*r+1) *d:=by omega
  have b1:=jiP a1 (ji5 hd)
  have b2:=jiP a2 (ji5 hd)
  omega
theorem X3 {n d n' d':Int} (hd:0<d) (hd':0<d') (h:n*d'=n'*d) :ZV n d=ZV n' d':=by
 obtain ⟨k1,k2⟩ := (Mp (n:=n') hd').1 rfl
 rw [Mp hd]
 generalize ZV n' d'=r at*
 have e1: (2*r- 1) *d'*d≤2*n'*d:=jij k1 (ji5 hd)
 have e2:2*n'*d< (2*r+1) *d'*d:=jiz k2 hd
 have e3:2*n'*d=2*n*d':=by grind
 rw [e3] at e1 e2
 have e4: (2*r- 1) *d'*d= (2*r- 1) *d*d':=by grind
 have e5: (2*r+1) *d'*d= (2*r+1) *d*d':=by grind
 rw [e4] at e1
 rw [e5] at e2
 exact⟨jiS e1 hd',jiP e2 (ji5 hd')⟩
theorem Xi {x y u v n d n' d':Int} (hd:d≠0) (hd':d'≠0) (h: (x*d+ (y- x) *n) *d'= (u*d'+ (v- u) *n') *d) :Bw x y n d=Bw u v n' d':=by
 unfold Bw
 split<;>split
 ·exact X3 Om Om (by grind)
 ·exact X3 Om Om (by grind)
 ·exact X3 Om Om (by grind)
 ·exact X3 Om Om (by grind)
theorem xp {a b c d:Pn} (h:TQ a b c d≠0) (h':TQ c d a b≠0) :GH c d a b=GH a b c d:=by
 obtain ⟨a1,a2⟩ :=a;obtain ⟨b1,b2⟩ :=b;obtain ⟨c1,c2⟩ :=c;obtain ⟨d1,d2⟩ :=d
 unfold GH
 refine Prod.ext (Xi h' h ?_) (Xi h' h ?_)
 ·simp only [zK,Yp,tn,Q8];grind
 ·simp only [zK,Yp,tn,Q8];grind
def Ctn (s:Sp) (N D:Int) :Prop:= (s.ln*D<N*s.ld∨(s.ln*D=N*s.ld∧s.lc=true))∧(N*s.hd<s.hn*D∨(N*s.hd=s.hn*D∧s.hc=true))
theorem jei {s:Sp} {N D:Int} (hD:0<D) (hl:0<s.ld) (hh:0<s.hd) (h:Ctn s N D) :vP s=true:=by
 obtain ⟨h1,h2⟩ :=h
 simp only [vP,ji4,jig,decide_eq_true_eq]
 rcases h1 with h1 |⟨h1,c1⟩
 ·left
  have:=wd (a:=s.ln) (b:=s.ld) (c:=N) (d:=D) (e:=s.hn) (f:=s.hd) hD hl hh h1 (by rcases h2 with h2 |⟨h2,_⟩ <;>omega)
  omega
 ·rcases h2 with h2 |⟨h2,c2⟩
  ·left
   have:=KS (a:=s.ln) (b:=s.ld) (c:=N) (d:=D) (e:=s.hn) (f:=s.hd) hD hl hh Om h2
   omega
  ·have:=vq (a:=s.ln) (b:=s.ld) (c:=N) (d:=D) (e:=s.hn) (f:=s.hd) hD hl hh Om Om
   by_cases e:s.ln*s.hd- s.hn*s.ld=0
   ·exact .inr ⟨⟨e,c1⟩,c2⟩
   ·left;omega
theorem RM {s x:Sp} {N D:Int} (h:Ctn s N D) (hx:Ctn x N D) :Ctn (J7 s x) N D:=by
 have hl:Ctn (qY s x) N D:=by unfold qY;split;exact⟨hx.1,h.2⟩;exact h
 unfold J7 ko
 split
 ·exact⟨hl.1,hx.2⟩
 ·exact hl
theorem PD {N D:Int} (h0:0≤N) (h1:N≤D) :Ctn W6 N D:=by
 unfold Ctn W6
 simp
 omega
def InC (f d lo N D:Int) :Prop:=lo*D≤f*D+d*N∧f*D+d*N< (lo+2) *D
theorem PC {f d lo N D:Int} (hD:0<D) (h0:0≤N) (h1:N≤D) (h:InC f d lo N D) :KM f d lo=true∧Ctn (QW f d lo) N D:=by
 obtain ⟨k1,k2⟩ :=h
 unfold KM QW
 by_cases p:0<d
 ·rw [if_pos p]
  refine⟨by simp;omega,?_,?_⟩
  ·have e: (lo- f) *D=lo*D- f*D:=by grind
   have e':N*d=d*N:=jiV _ _
   show(lo- f) *D<N*d∨((lo- f) *D=N*d∧true=true)
   rcases Int.lt_or_eq_of_le (show(lo- f) *D≤N*d by omega) with h | h
   ·exact .inl h
   ·exact .inr ⟨h,rfl⟩
  ·left
   have e: (lo+2- f) *D= (lo+2) *D- f*D:=by grind
   have e':N*d=d*N:=jiV _ _
   show N*d< (lo+2- f) *D
   omega
 ·rw [if_neg p]
  by_cases q:d<0
  ·rw [if_pos q]
   refine⟨by simp;omega,?_,?_⟩
   ·left
    have e: (f- lo- 2) *D=f*D- (lo+2) *D:=by grind
    have e':N* -d= -(d*N) :=by grind
    show(f- lo- 2) *D<N* -d
    omega
   ·have e: (f- lo) *D=f*D- lo*D:=by grind
    have e':N* -d= -(d*N) :=by grind
    show N* -d< (f- lo) *D∨(N* -d= (f- lo) *D∧true=true)
    rcases Int.lt_or_eq_of_le (show N* -d≤(f- lo) *D by omega) with h | h
    ·exact .inl h
    ·exact .inr ⟨h,rfl⟩
  ·rw [if_neg q]
   have d0:d=0:=by omega
   subst d0
   have e:f*D+0*N=f*D:=by omega
   rw [e] at k1 k2
   have g1:=jiS k1 hD
   have g2:=jiP k2 (ji5 hD)
   exact⟨by simp;omega,PD h0 h1⟩
theorem jgw {f d lo f' d' lo' N D:Int} (hD:0<D) (h0:0≤N) (h1:N≤D) (h:InC f d lo N D) (h':InC f' d' lo' N D) :Xr f d lo f' d' lo'=true:=by
 obtain ⟨a1,a2⟩ :=PC hD h0 h1 h
 obtain ⟨b1,b2⟩ :=PC hD h0 h1 h'
 have p1:=K0 Ur (kZ f d lo)
 have p2:=K0 p1 (kZ f' d' lo')
 rw [Xr,a1,b1,jei hD p2.1 p2.2 (RM (RM (PD h0 h1) a2) b2)]
 rfl
def ipB (a b p:Pn) :Bool:=wR a.1 a.2&&wR b.1 b.2&&wR p.1 p.2&&Xr (2*a.1) (2* (b.1- a.1)) (2*p.1- 1) (2*a.2) (2* (b.2- a.2)) (2*p.2- 1)
theorem jfO {a b p:Pn} {N D:Int} (ha:bd2 a) (hb:bd2 b) (hp:bd2 p) (hD:0<D) (h0:0≤N) (h1:N≤D)
  (hx: (2*p.1- 1) *D≤2* (a.1*D+ (b.1- a.1) *N)∧2* (a.1*D+ (b.1- a.1) *N) < (2*p.1+1) *D)
  (hy: (2*p.2- 1) *D≤2* (a.2*D+ (b.2- a.2) *N)∧2* (a.2*D+ (b.2- a.2) *N) < (2*p.2+1) *D) :ipB a b p=true:=by
 rw [ipB,yh ha,yh hb,yh hp,jix,jix,jix]
 refine jgw hD h0 h1 ?_ ?_
 ·have e:2*a.1*D+2* (b.1- a.1) *N=2* (a.1*D+ (b.1- a.1) *N) :=by grind
  have e2: (2*p.1- 1+2) *D= (2*p.1+1) *D:=by grind
  unfold InC
  rw [e,e2]
  exact hx
 ·have e:2*a.2*D+2* (b.2- a.2) *N=2* (a.2*D+ (b.2- a.2) *N) :=by grind
  have e2: (2*p.2- 1+2) *D= (2*p.2+1) *D:=by grind
  unfold InC
  rw [e,e2]
  exact hy
theorem Cb {x y N D B r:Int} (hx: -B≤x∧x≤B) (hy: -B≤y∧y≤B) (hD:0<D) (h0:0≤N) (h1:N≤D) (h: (2*r- 1) *D≤2* (x*D+ (y- x) *N)∧2* (x*D+ (y- x) *N) < (2*r+1) *D) : -B≤r∧r≤B:=by
 have e:x*D+ (y- x) *N=x* (D- N) +y*N:=by grind
 rw [e] at h
 have a1:x* (D- N)≤B* (D- N) :=jij hx.2 Om
 have a2:y*N≤B*N:=jij hy.2 h0
 have a3: -B* (D- N)≤x* (D- N) :=jij hx.1 Om
 have a4: -B*N≤y*N:=jij hy.1 h0
 have e1:B* (D- N) +B*N=B*D:=by grind
 have e2: -B* (D- N) + -B*N= -B*D:=by grind
 have k1: (2*r- 1) *D≤(2*B) *D:=by
  have:2*B*D=2* (B*D) :=by grind
  omega
 have k2: (2* -B) *D< (2*r+1) *D:=by
  have:2* -B*D=2* (-B*D) :=by grind
  omega
 have m1:=jiS k1 hD
 have m2:=jiP k2 (ji5 hD)
 omega
theorem TV {x y n d:Int} (hd:d≠0) :∃N D:Int,0<D∧((d<0∧N= -n∧D= -d)∨(0<d∧N=n∧D=d))∧(2*Bw x y n d- 1) *D≤2* (x*D+ (y- x) *N)∧2* (x*D+ (y- x) *N) < (2*Bw x y n d+1) *D:=by
 unfold Bw
 split
 ·exact⟨-n,-d,by omega, .inl ⟨by assumption,rfl,rfl⟩,(Mp Om).1 rfl⟩
 ·exact⟨n,d,by omega, .inr ⟨by omega,rfl,rfl⟩,(Mp Om).1 rfl⟩
theorem Ex {a b c d:Pn} (ha:bd2 a) (hb:bd2 b) (hs:qf a b c d=true) :bd2 (GH a b c d)∧ipB a b (GH a b c d) =true:=by
 have hD:=K3 hs
 have hs2:= (K4.1 hs).2
 rw [←Yp a c d] at hs2
 have e:=zK a b c d
 rw [←Yp a c d] at e
 obtain ⟨N,D,h0,h1,hx⟩ :=TV (x:=a.1) (y:=b.1) (n:=crN a c d) hD
 obtain ⟨N',D',_,h1',hy⟩ :=TV (x:=a.2) (y:=b.2) (n:=crN a c d) hD
 obtain rfl:N'=N:=by omega
 obtain rfl:D'=D:=by omega
 have n0:0≤N'∧N'≤D':=by omega
 have m1:=Cb ha.1 hb.1 h0 n0.1 n0.2 hx
 have m2:=Cb ha.2 hb.2 h0 n0.1 n0.2 hy
 have hp:bd2 (GH a b c d) :=⟨m1,m2⟩
 exact⟨hp,jfO ha hb hp h0 n0.1 n0.2 hx hy⟩
theorem jgQ {a b p:Pn} (ha:bd2 a) (hb:bd2 b) (h:uO a b p=true) :bd2 p∧ipB a b p=true:=by
 obtain ⟨ht,hx,hy⟩ :=KE.1 h
 have hp:bd2 p:=by
  obtain ⟨⟨a1,a2⟩,a3,a4⟩ :=ha
  obtain ⟨⟨b1,b2⟩,b3,b4⟩ :=hb
  refine⟨⟨?_,?_⟩,?_,?_⟩ <;>omega
 have ht': (b.1- a.1) * (p.2- a.2) = (b.2- a.2) * (p.1- a.1) :=by simp only [tn,Q8] at ht;omega
 have key:∀N D:Int,0<D→0≤N→N≤D→a.1*D+ (b.1- a.1) *N=p.1*D→a.2*D+ (b.2- a.2) *N=p.2*D→ipB a b p=true:=by
  intro N D h0 h1 h2 e1 e2
  refine jfO ha hb hp h0 h1 h2 ?_ ?_
  ·rw [e1]
   have g1: (2*p.1- 1) *D=2* (p.1*D) - D:=by grind
   have g2: (2*p.1+1) *D=2* (p.1*D) +D:=by grind
   omega
  ·rw [e2]
   have g1: (2*p.2- 1) *D=2* (p.2*D) - D:=by grind
   have g2: (2*p.2+1) *D=2* (p.2*D) +D:=by grind
   omega
 refine⟨hp,?_⟩
 rcases ji1 a.1 b.1 with h1 | h1 | h1
 ·exact key (p.1- a.1) (b.1- a.1) Om Om Om (by grind) (by grind)
 ·rcases ji1 a.2 b.2 with h2 | h2 | h2
  ·exact key (p.2- a.2) (b.2- a.2) Om Om Om (by grind) (by grind)
  ·have e1:p.1=a.1:=by omega
   have e2:p.2=a.2:=by omega
   exact key 0 1 Om Om Om Om Om
  ·exact key (a.2- p.2) (a.2- b.2) Om Om Om (by grind) (by grind)
 ·exact key (a.1- p.1) (a.1- b.1) Om Om Om (by grind) (by grind)
def Z4 (e f:Leg) :Prop:=vh (lA e) (lA f)∨(lA e=lA f∧vh (lB e) (lB f))
instance (e f:Leg) :Decidable (Z4 e f) :=by unfold Z4;exact inferInstance
theorem U3 {e f:Leg} (h1:lA e=lA f) (h2:lB e=lB f) :e=f:=by
 rcases e with⟨a1,a2,a3,a4⟩
 rcases f with⟨b1,b2,b3,b4⟩
 simp only [lA,lB,Prod.mk.injEq] at h1 h2
 rw [h1.1,h1.2,h2.1,h2.2]
theorem yO {e f g:Leg} (h:Z4 e f) (h':Z4 f g) :Z4 e g:=by
 rcases h with h |⟨h1,h2⟩
 ·rcases h' with h' |⟨h3,_⟩
  ·exact .inl (Vx h h')
  ·exact .inl (h3▸h)
 ·rcases h' with h' |⟨h3,h4⟩
  ·exact .inl (h1▸h')
  ·exact .inr ⟨h1.trans h3,Vx h2 h4⟩
theorem vz (e:Leg) :¬Z4 e e:=by
 rintro(h |⟨_,h⟩) <;>exact kC _ h
theorem Mg (e f:Leg) :Z4 e f∨e=f∨Z4 f e:=by
 rcases U4 (lA e) (lA f) with h | h | h
 ·exact .inl (.inl h)
 ·rcases U4 (lB e) (lB f) with h' | h' | h'
  ·exact .inl (.inr ⟨h,h'⟩)
  ·exact .inr (.inl (U3 h h'))
  ·exact .inr (.inr (.inr ⟨h.symm,h'⟩))
 ·exact .inr (.inr (.inl h))
theorem Nw {e f g:Leg} (h:¬Z4 e f) (h':¬Z4 f g) :¬Z4 e g:=fun k=>by
 rcases Mg f g with c | c | c
 ·exact h' c
 ·exact h (c▸k)
 ·exact h (yO k c)
def jdR (l:List Leg) :Prop:=l.Pairwise Z4
theorem zv:∀ {l m:List Leg},jdR l→jdR m→(∀p,p∈l↔p∈m)→l=m
 | [],[],_,_,_=>rfl
 | [],q::m,_,_,h=>absurd ((h q).2 (by simp)) (by simp)
 | p::l,[],_,_,h=>absurd ((h p).1 (by simp)) (by simp)
 | p::l,q::m,hl,hm,h=>by
  have kl:=jiR.1 hl
  have km:=jiR.1 hm
  have e:p=q:=by
   rcases jir.1 ((h p).1 (by simp)) with e | h1
   ·exact e
   ·rcases jir.1 ((h q).2 (by simp)) with e | h2
    ·exact e.symm
    ·exact absurd (yO (kl.1 q h2) (km.1 p h1)) (vz p)
  subst e
  congr 1
  refine zv kl.2 km.2 fun r=> ?_
  constructor
  ·intro hr
   rcases jir.1 ((h r).1 (jiq _ hr)) with e | h1
   ·exact absurd (e▸kl.1 r hr) (vz _)
   ·exact h1
  ·intro hr
   rcases jir.1 ((h r).2 (jiq _ hr)) with e | h1
   ·exact absurd (e▸km.1 r hr) (vz _)
   ·exact h1
def QR:List Leg→List Leg
 | [] => []
 | [p] => [p]
 | p::q::l=>if p=q then QR (q::l) else p::QR (q::l)
theorem Zt:∀(l:List Leg) (r:Leg),r∈QR l↔r∈l
 | [],_=>Iff.rfl
 | [_],_=>Iff.rfl
 | p::q::l,r=>by
  unfold QR
  split
  ·rename_i e
   rw [Zt (q::l) r,e]
   simp
  ·rw [jir,Zt (q::l) r]
   simp
def Ed (l:List Leg) :Prop:=l.Pairwise fun p q=>¬Z4 q p
theorem Dq:∀ {l:List Leg},Ed l→jdR (QR l)
 | [],_=>List.Pairwise.nil
 | [p],_=>jjD _ _
 | p::q::l,h=>by
  have h1:=jiR.1 h
  have ih:=Dq (l:=q::l) h1.2
  unfold QR
  split
  ·exact ih
  ·rename_i hne
   refine jiR.2 ⟨fun r hr=> ?_,ih⟩
   rw [Zt] at hr
   have hpq:Z4 p q:=by
    rcases Mg p q with h2 | h2 | h2
    ·exact h2
    ·exact absurd h2 hne
    ·exact absurd h2 (h1.1 q (by simp))
   rcases jir.1 hr with e | hr
   ·rw [e];exact hpq
   ·have h3:= (jiR.1 h1.2).1 r hr
    rcases Mg q r with c | c | c
    ·exact yO hpq c
    ·exact c▸hpq
    ·exact absurd c h3
def Qn (e:Leg) :Leg:=⟨e.bx,e.b_y,e.ax,e.ay⟩
def Q5 (e:Leg) :Leg:=if vh (lB e) (lA e) then Qn e else e
def sg (e:Leg) :Int:=if vh (lB e) (lA e) then-1 else 1
theorem Ho (e:Leg) :Qn (Qn e) =e:=rfl
theorem jcA {e:Leg} (h:qN e) :qN (Q5 e) :=by
 unfold Q5
 split
 ·exact⟨h.2.2.1,h.2.2.2,h.1,h.2.1⟩
 ·exact h
theorem jeZ (e:Leg) :¬vh (lB (Q5 e)) (lA (Q5 e)) :=by
 unfold Q5
 split
 ·rename_i h
  intro k
  exact kC _ (Vx h k)
 ·assumption
theorem Mj {p e:Leg} (hp:¬vh (lB p) (lA p)) (hne:lA p≠lB p) :Q5 e=p↔e=p∨e=Qn p:=by
 unfold Q5
 constructor
 ·split
  ·intro h
   exact .inr (by rw [←h];rfl)
  ·exact .inl
 ·rintro(rfl | rfl)
  ·rw [if_neg hp]
  ·have:vh (lB (Qn p)) (lA (Qn p)) :=by
    rcases U4 (lA p) (lB p) with h | h | h
    ·exact h
    ·exact absurd h hne
    ·exact absurd h hp
   rw [if_pos this,Ho]
theorem CI {p:Leg} (hp:¬vh (lB p) (lA p)) :sg p=1:=if_neg hp
theorem jdh {p:Leg} (hp:¬vh (lB p) (lA p)) (hne:lA p≠lB p) :sg (Qn p) = -1:=by
 have:vh (lB (Qn p)) (lA (Qn p)) :=by
  rcases U4 (lA p) (lB p) with h | h | h
  ·exact h
  ·exact absurd h hne
  ·exact absurd h hp
 exact if_pos this
def sm {α:Type} (f:α→Int) :List α→Int
 | [] =>0
 | x::l=>f x+sm f l
theorem Kn {α:Type} (f:α→Int) :∀a b:List α,sm f (a++b) =sm f a+sm f b
 | [],b=>by simp [sm]
 | x::a,b=>by simp only [jiJ,sm,Kn f a b];omega
theorem JW {α:Type} {f g:α→Int} :∀ {l:List α},(∀x∈l,f x=g x)→sm f l=sm g l
 | [],_=>rfl
 | x::l,h=>by simp only [sm];rw [h x (by simp),JW fun y hy=>h y (jiq _ hy)]
theorem xM {α:Type} (f g:α→Int) :∀l:List α,sm (fun x=>f x+g x) l=sm f l+sm g l
 | [] =>rfl
 | x::l=>by simp only [sm,xM f g l];omega
theorem yu {α:Type} (f g:α→Int) :∀l:List α,sm (fun x=>f x- g x) l=sm f l- sm g l
 | [] =>rfl
 | x::l=>by simp only [sm,yu f g l];omega
theorem jf1 {α:Type} {f:α→Int} :∀ {l:List α},(∀x∈l,-1≤f x∧f x≤1)→-(l.length:Int)≤sm f l∧sm f l≤l.length
 | [],_=>by simp [sm]
 | x::l,h=>by
  have h1:=h x (by simp)
  have h2:=jf1 (l:=l) fun y hy=>h y (jiq _ hy)
  simp only [sm,jim]
  omega
structure Nt where
 e:Leg
 one:Int
 two:Int
 l1:Int
 l2:Int
def qq (x:Nt) :List Value:=jZ x.e++ [.int .i64 x.one, .int .i64 x.two, .int .i64 x.l1, .int .i64 x.l2]
def zX (e:Leg) :Nt:=⟨e,0,0,0,0⟩
def nt (l:List Nt) (k:Nat) :Nt:=l.getD k (zX ⟨0,0,0,0⟩)
theorem zw {l:List Nt} {k:Nat} (h:k<l.length) :l[k] =nt l k:=by simp [nt,List.getD,List.getElem?_eq_getElem h]
def wC (s:Bool) (n:Int) (x:Nt) :Nt:=if s=true then {x with two:=x.two+n} else {x with one:=x.one+n}
theorem Xe (s:Bool) (n:Int) (x:Nt) : (wC s n x).e=x.e:=by unfold wC;split<;>rfl
def WC (s:Bool) (e:Leg) :List Nt→List Nt
 | [] => [wC s (sg e) (zX (Q5 e))]
 | x::l=>if Z4 x.e (Q5 e) then x::WC s e l else if x.e=Q5 e then wC s (sg e) x::l else wC s (sg e) (zX (Q5 e)) ::x::l
def GQ (l:List Nt) (k:Nat) (e:Leg) :List Nt:=l.take k++zX e::l.drop k
theorem Rk {s:Bool} {e:Leg} :∀ {l:List Nt} {k:Nat},k≤l.length→(∀j,j<k→Z4 (nt l j).e (Q5 e))→(k<l.length→¬Z4 (nt l k).e (Q5 e)∧(nt l k).e≠Q5 e)→
  WC s e l= (GQ l k (Q5 e)).set k (wC s (sg e) (nt (GQ l k (Q5 e)) k))
 | [],k,hk,_,_=>by
  have:k=0:=by simpa using hk
  subst this
  rfl
 | x::l,0,_,_,h=>by
  have:¬Z4 x.e (Q5 e)∧x.e≠Q5 e:=h (by simp)
  rw [WC,if_neg this.1,if_neg this.2]
  rfl
 | x::l,k+1,hk,h1,h2=>by
  have h0:Z4 x.e (Q5 e) :=h1 0 Om
  rw [WC,if_pos h0,Rk (l:=l) (k:=k) (by simpa using hk) (fun j hj=>h1 (j+1) Om) (fun hk'=>h2 (by simpa using hk'))]
  rfl
theorem Rl {s:Bool} {e:Leg} :∀ {l:List Nt} {k:Nat},k<l.length→(∀j,j<k→Z4 (nt l j).e (Q5 e))→(nt l k).e=Q5 e→
  WC s e l=l.set k (wC s (sg e) (nt l k))
 | [],k,hk,_,_=>absurd hk (by simp)
 | x::l,0,_,_,h=>by
  have h':x.e=Q5 e:=h
  rw [WC,if_neg (by rw [h'];exact vz _),if_pos h']
  rfl
 | x::l,k+1,hk,h1,h2=>by
  have h0:Z4 x.e (Q5 e) :=h1 0 Om
  rw [WC,if_pos h0,Rl (l:=l) (k:=k) (by simpa using hk) (fun j hj=>h1 (j+1) Om) h2]
  rfl
theorem MB {s:Bool} {e q:Leg} :∀ {l:List Nt},(∃x∈WC s e l,x.e=q)↔(∃x∈l,x.e=q)∨q=Q5 e
 | [] =>by simp [WC,Xe,zX,eq_comm]
 | x::l=>by
  have ih:=MB (s:=s) (e:=e) (q:=q) (l:=l)
  unfold WC
  split
  ·simp only [jir,exists_eq_or_imp,ih,or_assoc]
  ·split
   ·rename_i h
    simp only [jir,exists_eq_or_imp,Xe]
    constructor
    ·exact .inl
    ·rintro(h1 | h1)
     ·exact h1
     ·exact .inl (h1▸h)
   ·simp only [jir,exists_eq_or_imp,Xe]
    constructor
    ·rintro(h1 | h1)
     ·exact .inr h1.symm
     ·exact .inl h1
    ·rintro(h1 | h1)
     ·exact .inr h1
     ·exact .inl h1.symm
def x5 (l:List Nt) :Prop:=l.Pairwise fun x y=>Z4 x.e y.e
theorem Ri {s:Bool} {e:Leg} :∀ {l:List Nt},x5 l→x5 (WC s e l)
 | [],_=>jjD _ _
 | x::l,h=>by
  have h1:=jiR.1 h
  unfold WC
  split
  ·rename_i hx
   refine jiR.2 ⟨fun y hy=> ?_,Ri h1.2⟩
   rcases(MB (q:=y.e)).1 ⟨y,hy,rfl⟩ with⟨z,hz,e1⟩ | e1
   ·rw [←e1];exact h1.1 z hz
   ·rw [e1];exact hx
  ·rename_i hx
   split
   ·refine jiR.2 ⟨fun y hy=> ?_,h1.2⟩
    rw [Xe];exact h1.1 y hy
   ·rename_i hne
    have hlt:Z4 (Q5 e) x.e:=by
     rcases Mg (Q5 e) x.e with c | c | c
     ·exact c
     ·exact absurd c.symm hne
     ·exact absurd c hx
    refine jiR.2 ⟨fun y hy=> ?_,h⟩
    rw [Xe]
    rcases jir.1 hy with c | hy
    ·rw [c];exact hlt
    ·exact yO hlt (h1.1 y hy)
def VP (s:Bool) (x:Nt) :Int:=if s=true then x.two else x.one
def wS (s:Bool) (F:Leg→Int) (l:List Nt) :Int:=sm (fun x=>VP s x*F x.e) l
theorem jaR {s t:Bool} {e:Leg} (F:Leg→Int) :∀(l:List Nt),wS t F (WC s e l) =wS t F l+ (if s=t then sg e*F (Q5 e) else 0)
 | [] =>by
  cases s<;>cases t<;>simp [wS,WC,sm,VP,wC,zX]
 | x::l=>by
  have ih:=jaR (s:=s) (t:=t) (e:=e) F l
  unfold wS at ih⊢
  unfold WC
  split
  ·simp only [sm,ih];omega
  ·split
   ·rename_i h
    cases s<;>cases t<;>simp [sm,VP,wC,h] <;>grind
   ·cases s<;>cases t<;>simp [sm,VP,wC,zX] <;>grind
def Qd (s:Bool) (es:List Leg) (l:List Nt) :List Nt:=es.foldl (fun l e=>WC s e l) l
theorem wY {s:Bool} :∀ {es:List Leg} {l:List Nt},x5 l→x5 (Qd s es l)
 | [],_,h=>h
 | e::es,l,h=>wY (es:=es) (Ri (e:=e) h)
theorem wZ {s:Bool} {q:Leg} :∀ {es:List Leg} {l:List Nt},(∃x∈Qd s es l,x.e=q)↔(∃x∈l,x.e=q)∨∃e∈es,q=Q5 e
 | [],l=>by simp [Qd]
 | e::es,l=>by
  have:=wZ (s:=s) (q:=q) (es:=es) (l:=WC s e l)
  unfold Qd at this⊢
  rw [jjd,this,MB]
  simp only [jir,exists_eq_or_imp,or_assoc]
theorem zq {s t:Bool} (F:Leg→Int) :∀(es:List Leg) (l:List Nt),wS t F (Qd s es l) =wS t F l+ (if s=t then sm (fun e=>sg e*F (Q5 e)) es else 0)
 | [],l=>by simp [Qd,sm]
 | e::es,l=>by
  have:=zq (s:=s) (t:=t) F es (WC s e l)
  unfold Qd at this⊢
  rw [jjd,this,jaR]
  split<;> (try simp only [sm]) <;>omega
theorem Rj {s:Bool} {e:Leg} :∀(l:List Nt),(WC s e l).length≤l.length+1
 | [] =>by simp [WC]
 | x::l=>by
  have:=Rj (s:=s) (e:=e) l
  unfold WC
  split
  ·simp only [jim];omega
  ·split<;>simp only [jim] <;>omega
def ZR (x:Int) :Int:=if x<0 then-x else x
theorem FQ (x:Int) :0≤ZR x:=by unfold ZR;split<;>omega
theorem PO (x:Int) : -ZR x≤x∧x≤ZR x:=by unfold ZR;split<;>omega
def aS (s:Bool) (l:List Nt) :Int:=sm (fun x=>ZR (VP s x)) l
theorem Tk (e:Leg) :sg e=1∨sg e= -1:=by unfold sg;split<;>simp
theorem jaQ {s t:Bool} {e:Leg} :∀(l:List Nt),aS t (WC s e l)≤aS t l+ (if s=t then 1 else 0)
 | [] =>by
  have:=Tk e
  cases s<;>cases t<;>simp [aS,WC,sm,VP,wC,zX,ZR] <;>omega
 | x::l=>by
  have ih:=jaQ (s:=s) (t:=t) (e:=e) l
  have:=Tk e
  unfold aS at ih⊢
  unfold WC
  split
  ·simp only [sm];omega
  ·split
   ·cases s<;>cases t<;>simp [sm,VP,wC,ZR] <;> (repeat' split) <;>omega
   ·cases s<;>cases t<;>simp [sm,VP,wC,zX,ZR] <;> (repeat' split) <;>omega
theorem zp {s t:Bool} :∀(es:List Leg) (l:List Nt),aS t (Qd s es l)≤aS t l+ (if s=t then(es.length:Int) else 0)
 | [],l=>by simp [Qd]
 | e::es,l=>by
  have h1:=zp (s:=s) (t:=t) es (WC s e l)
  have h2:=jaQ (s:=s) (t:=t) (e:=e) l
  unfold Qd at h1⊢
  rw [jjd]
  split at h1<;>split at h2<;>simp only [jim] <;> (try split) <;>simp_all<;>omega
structure Ne where
 e:Leg
 net:Int
 left:Int
 right:Int
def vC (p:Leg) :Int:=p.ax+p.bx
def KU (p:Leg) :Int:=p.ay+p.b_y
def Qe (es:List Leg) (p:Leg) :Int:=sm (fun e=>if Q5 e=p then sg e else 0) es
def wy (es:List Leg) (p:Leg) :Int:=sm (fun e=>if Q5 e=p then 0 else Qw (Q2 true e) (vC p) (KU p)) es
def kX (es:List Leg) (p:Leg) :Ne:=if p.ay=p.b_y then⟨p,Qe es p,wy es p,wy es p- Qe es p⟩ else⟨p,Qe es p,wy es p+Qe es p,wy es p⟩
def ZW (e:Leg) :Leg:=⟨-e.ay,e.ax,-e.b_y,e.bx⟩
def BD (p q:Leg) :Int:=if p.ay=p.b_y then Qw (ZW (Q2 true q)) (-(KU p)) (vC p) else Qw (Q2 true q) (vC p) (KU p)
def QE (s:Bool) (l:List Nt) (k:Nat) :Nat→Int
 | 0=>0
 | i+1=>QE s l k i+ (if i=k then 0 else VP s (nt l i) *BD (nt l k).e (nt l i).e)
theorem jdK (l:Leg) (x y:Int) : -1≤Qw l x y∧Qw l x y≤1:=by unfold Qw;split<;> (try split) <;>omega
theorem jd3 (p q:Leg) : -1≤BD p q∧BD p q≤1:=by unfold BD;split<;>exact jdK _ _ _
theorem jcs {c g:Int} (h: -1≤g∧g≤1) : -ZR c≤c*g∧c*g≤ZR c:=by
 have h1:=PO c
 have:g= -1∨g=0∨g=1:=by omega
 rcases this with rfl | rfl | rfl<;>simp<;>omega
theorem Mr {α:Type} (f:α→Int) {l:List α} {k:Nat} (h:k<l.length) :sm f (l.take (k+1)) =sm f (l.take k) +f l[k] :=by
 rw [jin h,Kn]
 simp [sm]
theorem jdl {α:Type} {f:α→Int} (h:∀x,0≤f x) :∀l:List α,0≤sm f l
 | [] =>Int.le_refl _
 | x::l=>by
  have:=h x
  have:=jdl h l
  simp only [sm]
  omega
theorem NO {α:Type} {f:α→Int} (h:∀x,0≤f x) (l:List α) (k:Nat) :sm f (l.take k)≤sm f l:=by
 have e:sm f l=sm f (l.take k) +sm f (l.drop k) :=by rw [←Kn,jiw]
 have:=jdl h (l.drop k)
 omega
theorem Dk {s:Bool} {l:List Nt} {k:Nat} :∀i,i≤l.length→-sm (fun x=>ZR (VP s x)) (l.take i)≤QE s l k i∧QE s l k i≤sm (fun x=>ZR (VP s x)) (l.take i)
 | 0,_=>by simp [QE,sm]
 | i+1,h=>by
  have h1:=Dk (s:=s) (l:=l) (k:=k) i Om
  have h2:=jcs (c:=VP s (nt l i)) (jd3 (nt l k).e (nt l i).e)
  have h3:=FQ (VP s (nt l i))
  rw [Mr _ Om,zw Om,QE]
  split<;>omega
theorem yC {s:Bool} {l:List Nt} {k i:Nat} (h:i≤l.length) : -aS s l≤QE s l k i∧QE s l k i≤aS s l:=by
 have h1:=Dk (s:=s) (l:=l) (k:=k) i h
 have h2:=NO (f:=fun x=>ZR (VP s x)) (fun x=>FQ _) l i
 unfold aS
 omega
theorem GZ {l:List Nt} {k:Nat} (h:k<l.length) :nt l k∈l:=by rw [←zw h];exact jis h
theorem jaW {l:List Nt} (h:x5 l) {i k:Nat} (hi:i<l.length) (hk:k<l.length) (he: (nt l i).e= (nt l k).e) :i=k:=by
 rcases Nat.lt_trichotomy i k with c | c | c
 ·have:=jjl.1 h i k hi hk c
  rw [zw hi,zw hk,he] at this
  exact absurd this (vz _)
 ·exact c
 ·have:=jjl.1 h k i hk hi c
  rw [zw hi,zw hk,he] at this
  exact absurd this (vz _)
theorem Ro {s:Bool} {l:List Nt} {k:Nat} (ha:x5 l) (hk:k<l.length) :∀i,i≤l.length→QE s l k i=sm (fun x=>VP s x* (if x.e= (nt l k).e then 0 else BD (nt l k).e x.e)) (l.take i)
 | 0,_=>rfl
 | i+1,h=>by
  rw [Mr _ Om,zw Om,QE,Ro ha hk i Om]
  congr 1
  by_cases e:i=k
  ·subst e
   simp
  ·rw [if_neg e,if_neg fun he=>e (jaW ha Om hk he)]
theorem El {s:Bool} {l:List Nt} {k:Nat} (ha:x5 l) (hk:k<l.length) :QE s l k l.length=wS s (fun q=>if q= (nt l k).e then 0 else BD (nt l k).e q) l:=by
 rw [Ro ha hk _ (jih _),jiX]
 rfl
theorem C3 {s:Bool} {p:Leg} :∀ {l:List Nt},(∀x∈l,x.e≠p)→wS s (fun q=>if q=p then 1 else 0) l=0
 | [],_=>rfl
 | x::l,h=>by
  have:=C3 (s:=s) (l:=l) fun y hy=>h y (jiq _ hy)
  unfold wS at*
  simp only [sm,this]
  rw [if_neg (h x (by simp))]
  simp
theorem jf5 {s:Bool} :∀ {l:List Nt} {x:Nt},x5 l→x∈l→wS s (fun q=>if q=x.e then 1 else 0) l=VP s x
 | y::l,x,h,hx=>by
  have h1:=jiR.1 h
  rcases jir.1 hx with e | hx
  ·subst e
   have:=C3 (s:=s) (p:=x.e) (l:=l) fun z hz e=>vz _ (e▸h1.1 z hz)
   unfold wS at*
   simp only [sm,this,if_true]
   omega
  ·have:=jf5 (s:=s) h1.2 hx
   have hne:y.e≠x.e:=fun e=>vz _ (e▸h1.1 x hx)
   unfold wS at*
   simp only [sm,this,if_neg hne]
   omega
theorem UT (l:Leg) (x y:Int) :Qw l x y=if(l.ay≤y∧y<l.b_y)∧0<Q8 l.ax l.ay l.bx l.b_y x y then 1 else if(l.b_y≤y∧y<l.ay)∧Q8 l.ax l.ay l.bx l.b_y x y<0 then-1 else 0:=by
 unfold Qw Fq ud
 simp only [jig,decide_eq_true_eq]
theorem Ye (e:Leg) (x y:Int) :Qw (Qn e) x y= -Qw e x y:=by
 have ht:Q8 (Qn e).ax (Qn e).ay (Qn e).bx (Qn e).b_y x y= -Q8 e.ax e.ay e.bx e.b_y x y:=by simp only [Qn,Q8];grind
 rw [UT,UT,ht]
 generalize Q8 e.ax e.ay e.bx e.b_y x y=t
 simp only [Qn]
 repeat' split
 all_goals omega
theorem jem (e:Leg) (x y:Int) :sg e*Qw (Q2 true (Q5 e)) x y=Qw (Q2 true e) x y:=by
 unfold Q5 sg
 split
 ·rw [show Q2 true (Qn e) =Qn (Q2 true e) from rfl,Ye];omega
 ·omega
theorem jfl (e:Leg) (x y:Int) :sg e*Qw (ZW (Q2 true (Q5 e))) x y=Qw (ZW (Q2 true e)) x y:=by
 unfold Q5 sg
 split
 ·rw [show ZW (Q2 true (Qn e)) =Qn (ZW (Q2 true e)) from rfl,Ye];omega
 ·omega
def qu (x y mx my:Int) :Int:=if mx<x∧y≤my then 1 else 0
theorem ZK {a b p:Int} (h:p=a*b) : (0<a∧0<b∧0<p)∨(0<a∧b<0∧p<0)∨(a<0∧0<b∧p<0)∨(a<0∧b<0∧0<p)∨(a=0∧p=0)∨(b=0∧p=0) :=by
 subst h
 rcases ji1 a 0 with ha | ha | ha
 ·rcases ji1 b 0 with hb | hb | hb
  ·exact .inr (.inr (.inr (.inl ⟨ha,hb,Int.mul_pos_of_neg_of_neg ha hb⟩)))
  ·subst hb;simp
  ·exact .inr (.inr (.inl ⟨ha,hb,jjh ha hb⟩))
 ·subst ha;simp
 ·rcases ji1 b 0 with hb | hb | hb
  ·exact .inr (.inl ⟨ha,hb,Int.mul_neg_of_pos_of_neg ha hb⟩)
  ·subst hb;simp
  ·exact .inl ⟨ha,hb,jiU ha hb⟩
theorem jfB {a1 a2 b1 b2 t:Int} (ht:t=a1*b2- a2*b1) (hno:¬(t=0∧(min a1 b1≤0∧0≤max a1 b1)∧min a2 b2≤0∧0≤max a2 b2)) :
  (if(a2≤0∧0<b2)∧0<t then(1:Int) else if(b2≤0∧0<a2)∧t<0 then-1 else 0) - (if(a1≤0∧0<b1)∧0<t then(1:Int) else if(b1≤0∧0<a1)∧t<0 then-1 else 0)
   = (if 0<a1∧a2≤0 then 1 else 0) - (if 0<b1∧b2≤0 then 1 else 0) :=by
 have h1:=ZK (a:=a1) (b:=b2) rfl
 have h2:=ZK (a:=a2) (b:=b1) rfl
 generalize a1*b2=p at*
 generalize a2*b1=q at*
 subst ht
 rcases h1 with h1 | h1 | h1 | h1 | h1 | h1<;>rcases h2 with h2 | h2 | h2 | h2 | h2 | h2<;> (repeat' split) <;>omega
theorem jdx {e:Leg} {mx my:Int} (hno:¬(Q8 e.ax e.ay e.bx e.b_y mx my=0∧(min e.ax e.bx≤mx∧mx≤max e.ax e.bx)∧min e.ay e.b_y≤my∧my≤max e.ay e.b_y)) :
  Qw e mx my- Qw (ZW e) (-my) mx=qu e.ax e.ay mx my- qu e.bx e.b_y mx my:=by
 have hr:Q8 (ZW e).ax (ZW e).ay (ZW e).bx (ZW e).b_y (-my) mx=Q8 e.ax e.ay e.bx e.b_y mx my:=by simp only [ZW,Q8];grind
 have ht:Q8 e.ax e.ay e.bx e.b_y mx my= (e.ax- mx) * (e.b_y- my) - (e.ay- my) * (e.bx- mx) :=by simp only [Q8];grind
 have h:=jfB ht (fun k=>hno ⟨k.1,by omega,by omega⟩)
 rw [UT,UT,hr]
 unfold qu
 generalize Q8 e.ax e.ay e.bx e.b_y mx my=t at*
 simp only [ZW]
 have e1: (e.ay≤my∧my<e.b_y)∧0<t↔(e.ay- my≤0∧0<e.b_y- my)∧0<t:=by omega
 have e2: (e.b_y≤my∧my<e.ay)∧t<0↔(e.b_y- my≤0∧0<e.ay- my)∧t<0:=by omega
 have e3: (e.ax≤mx∧mx<e.bx)∧0<t↔(e.ax- mx≤0∧0<e.bx- mx)∧0<t:=by omega
 have e4: (e.bx≤mx∧mx<e.ax)∧t<0↔(e.bx- mx≤0∧0<e.ax- mx)∧t<0:=by omega
 have e5:mx<e.ax∧e.ay≤my↔0<e.ax- mx∧e.ay- my≤0:=by omega
 have e6:mx<e.bx∧e.b_y≤my↔0<e.bx- mx∧e.b_y- my≤0:=by omega
 simp only [e1,e2,e3,e4,e5,e6]
 exact h
theorem xy {a b c d q:Pn} (h:q∈Qk a b c d) :qU a b c d=1∨qU a b c d=3:=by
 unfold qU
 have: (Qk a b c d).length≠0:=fun e=>by
  have:=jiQ e
  rw [this] at h
  cases h
 rw [if_neg this]
 split<;>simp
theorem GW {a b c d q r:Pn} (h:q∈Qk a b c d) (h':r∈Qk a b c d) (hne:q≠r) :qU a b c d=3:=by
 unfold qU
 match hl:Qk a b c d,h,h' with
 | [x],h,h'=>exact absurd ((jik.1 h).trans (jik.1 h').symm) hne
 | x::y::l,_,_=>simp
theorem jeO {a b c d:Pn} (hl:a.2=b.2) (hab:a.1≠b.1) (hcd:c≠d) (hn:¬((a=c∧b=d)∨(a=d∧b=c))) (h:ve a b c d=true) :
  ¬(Q8 (2*c.1) (2*c.2) (2*d.1) (2*d.2) (a.1+b.1) (a.2+b.2) =0∧(min (2*c.1) (2*d.1)≤a.1+b.1∧a.1+b.1≤max (2*c.1) (2*d.1))∧min (2*c.2) (2*d.2)≤a.2+b.2∧a.2+b.2≤max (2*c.2) (2*d.2)) :=by
 rintro⟨ht,hx,hy⟩
 have hap:kG a b c d=false:=by
  rw [kG]
  simp only [Bool.or_eq_false_iff,decide_eq_false_iff_not]
  omega
 have k3:qU a b c d≠3:=fun k=>by
  unfold ve at h
  rw [hap,k] at h
  simp [hn] at h
 have k2:qU a b c d≠2:=fun k=>by
  unfold ve at h
  rw [hap,k] at h
  simp at h
 have k1:qU a b c d=1→a=c∨a=d∨b=c∨b=d:=fun k=>by
  unfold ve at h
  rw [hap,k] at h
  simp only [jjg,if_false,if_neg (show¬((1:Int) =2) by omega),if_true,ji2,jjG,decide_eq_false_iff_not,ne_eq,Decidable.not_not] at h
  rcases h with((h | h) | h) | h
  ·exact .inl h
  ·exact .inr (.inl h)
  ·exact .inr (.inr (.inl h))
  ·exact .inr (.inr (.inr h))
 obtain ⟨a1,a2⟩ :=a
 obtain ⟨b1,b2⟩ :=b
 obtain ⟨c1,c2⟩ :=c
 obtain ⟨d1,d2⟩ :=d
 simp only [Prod.mk.injEq,ne_eq,not_and] at*
 subst hl
 by_cases hlev:c2=d2
 ·
  subst hlev
  have hyy:c2=a2:=by omega
  subst hyy
  have hcd':c1≠d1:=fun e=>hcd e rfl
  have on1:∀x:Int,(min a1 b1≤x∧x≤max a1 b1)→(min c1 d1≤x∧x≤max c1 d1)→kk (a1,c2) (b1,c2) (c1,c2) (d1,c2) (x,c2) =true:=fun x h1 h2=>by
   rw [kk,jig,KE,KE]
   simp only [tn,Q8]
   refine⟨⟨by simp,h1,by omega⟩,by simp,h2,by omega⟩
  have mem1:∀x:Int,(x=a1∨x=b1∨x=c1∨x=d1)→(min a1 b1≤x∧x≤max a1 b1)→(min c1 d1≤x∧x≤max c1 d1)→(x,c2)∈Qk (a1,c2) (b1,c2) (c1,c2) (d1,c2) :=fun x h0 h1 h2=>
   qL.2 ⟨by rcases h0 with rfl | rfl | rfl | rfl<;>simp,on1 x h1 h2⟩
  refine k3 (GW (q:= (max (min a1 b1) (min c1 d1),c2)) (r:= (min (max a1 b1) (max c1 d1),c2)) (mem1 _ Om Om Om) (mem1 _ Om Om Om) fun e=> ?_)
  simp only [Prod.mk.injEq] at e
  omega
 ·by_cases hc:c2=a2
  ·
   have e1:Q8 (2*c1) (2*c2) (2*d1) (2*d2) (a1+b1) (a2+a2) = -2* ((d2- c2) * (a1+b1- 2*c1)) :=by subst hc;simp only [Q8];grind
   have e2: (d2- c2) * (a1+b1- 2*c1) =0:=by omega
   have e3:a1+b1=2*c1:=by rcases SK e2 with k | k<;>omega
   subst hc
   have m: (c1,c2)∈Qk (a1,c2) (b1,c2) (c1,c2) (d1,d2) :=qL.2 ⟨by simp,by
    rw [kk,jig,KE,KE]
    simp only [tn,Q8]
    refine⟨⟨by simp,by omega,by omega⟩,by simp,by omega,by omega⟩⟩
   rcases xy m with k | k
   ·exact absurd (k1 k) Om
   ·exact k3 k
  ·by_cases hd:d2=a2
   ·have e1:Q8 (2*c1) (2*c2) (2*d1) (2*d2) (a1+b1) (a2+a2) =2* ((d2- c2) * (2*d1- (a1+b1))) :=by subst hd;simp only [Q8];grind
    have e2: (d2- c2) * (2*d1- (a1+b1)) =0:=by omega
    have e3:a1+b1=2*d1:=by rcases SK e2 with k | k<;>omega
    subst hd
    have m: (d1,d2)∈Qk (a1,d2) (b1,d2) (c1,c2) (d1,d2) :=qL.2 ⟨by simp,by
     rw [kk,jig,KE,KE]
     simp only [tn,Q8]
     refine⟨⟨by simp,by omega,by omega⟩,by grind,by omega,by omega⟩⟩
    rcases xy m with k | k
    ·exact absurd (k1 k) Om
    ·exact k3 k
   ·
    by_cases he: (Qk (a1,a2) (b1,a2) (c1,c2) (d1,d2)).length=0
    ·have hs:qf (a1,a2) (b1,a2) (c1,c2) (d1,d2) =true:=by
      rw [K4]
      have s1:=ZK (a:=b1- a1) (b:=c2- a2) (p:=tn (a1,a2) (b1,a2) (c1,c2)) (by simp only [tn,Q8];grind)
      have s2:=ZK (a:=b1- a1) (b:=d2- a2) (p:=tn (a1,a2) (b1,a2) (d1,d2)) (by simp only [tn,Q8];grind)
      have s3:=ZK (a:=d2- c2) (b:=b1- a1) (p:=tn (c1,c2) (d1,d2) (a1,a2) - tn (c1,c2) (d1,d2) (b1,a2)) (by simp only [tn,Q8];grind)
      have s4:2* (tn (c1,c2) (d1,d2) (a1,a2) +tn (c1,c2) (d1,d2) (b1,a2)) =0:=by rw [←ht];simp only [tn,Q8];grind
      clear k1 k2 k3 h hap ht he hn hcd
      generalize tn (a1,a2) (b1,a2) (c1,c2) =T1 at*
      generalize tn (a1,a2) (b1,a2) (d1,d2) =T2 at*
      generalize tn (c1,c2) (d1,d2) (a1,a2) =T3 at*
      generalize tn (c1,c2) (d1,d2) (b1,a2) =T4 at*
      rcases Int.lt_or_gt_of_ne hab with g | g<;>rcases(show c2<a2∧a2<d2∨d2<a2∧a2<c2 by omega) with g' | g'
      ·have t1:T1<0:=by omega
       have t2:0<T2:=by omega
       exact⟨.inl ⟨t1,t2⟩,by omega⟩
      ·have t1:0<T1:=by omega
       have t2:T2<0:=by omega
       exact⟨.inr ⟨t1,t2⟩,by omega⟩
      ·have t1:0<T1:=by omega
       have t2:T2<0:=by omega
       exact⟨.inr ⟨t1,t2⟩,by omega⟩
      ·have t1:T1<0:=by omega
       have t2:0<T2:=by omega
       exact⟨.inl ⟨t1,t2⟩,by omega⟩
     refine k2 ?_
     unfold qU
     rw [if_pos he,if_pos hs]
    ·have:∃q,q∈Qk (a1,a2) (b1,a2) (c1,c2) (d1,d2) :=by
      cases hh:Qk (a1,a2) (b1,a2) (c1,c2) (d1,d2) with
      | nil=>rw [hh] at he;exact absurd rfl he
      | cons x l=>exact⟨x,by simp⟩
     obtain ⟨q,hq⟩ :=this
     rcases xy hq with k | k
     ·exact absurd (k1 k) Om
     ·exact k3 k
theorem D2 (f:Int→Int→Int) {xs:List (Int×Int)} :∀k,k≤xs.length→sm (fun e:Leg=>f e.ax e.ay- f e.bx e.b_y) (qC xs k) =f (px xs 0) (py xs 0) - f (px xs (k % xs.length)) (py xs (k % xs.length))
 | 0,_=>by simp [qC,sm]
 | k+1,h=>by
  have ih:=D2 f (xs:=xs) k Om
  rw [jjx (show k<xs.length by omega)] at ih
  rw [KA]
  split
  ·rename_i he
   rw [ih]
   unfold nx at he
   rw [he.1,he.2]
  ·rw [Kn,ih]
   simp only [sm,nx]
   omega
theorem jcO (f:Int→Int→Int) (xs:List (Int×Int)) :sm (fun e:Leg=>f e.ax e.ay- f e.bx e.b_y) (J0 xs) =0:=by
 rw [J0,D2 f _ (jih _),Nat.mod_self]
 omega
theorem Cm (f:Int→Int→Int) (rs:List jV) :∀k,sm (fun e:Leg=>f e.ax e.ay- f e.bx e.b_y) (qJ rs k) =0
 | 0=>rfl
 | k+1=>by
  rw [qJ,Kn,Cm f rs k,jcO]
  rfl
structure Fine (es:List Leg) :Prop where
 ok:∀e∈es,qN e
 ne:∀e∈es,lA e≠lB e
 close:∀f:Int→Int→Int,sm (fun e:Leg=>f e.ax e.ay- f e.bx e.b_y) es=0
def I7 (es:List Leg) (p:Leg) :Prop:=p.ay=p.b_y→∀e∈es,Q5 e≠p→¬(Q8 (2*e.ax) (2*e.ay) (2*e.bx) (2*e.b_y) (vC p) (KU p) =0∧(min (2*e.ax) (2*e.bx)≤vC p∧vC p≤max (2*e.ax) (2*e.bx))∧min (2*e.ay) (2*e.b_y)≤KU p∧KU p≤max (2*e.ay) (2*e.b_y))
def Ir (es:List Leg) (p:Leg) :Int:=sm (fun e=>sg e* (if Q5 e=p then 0 else BD p (Q5 e))) es
theorem jc5 {es:List Leg} {p:Leg} (hf:Fine es) (hc:I7 es p) (hp:¬vh (lB p) (lA p)) (hne:lA p≠lB p) :
  kX es p=⟨p,Qe es p,Ir es p+Qe es p,Ir es p⟩ :=by
 have d0:Ir es p=sm (fun e=>if Q5 e=p then 0 else(if p.ay=p.b_y then Qw (ZW (Q2 true e)) (-(KU p)) (vC p) else Qw (Q2 true e) (vC p) (KU p))) es:=by
  refine JW fun e _=> ?_
  split
  ·simp
  ·unfold BD
   split
   ·exact jfl _ _ _
   ·exact jem _ _ _
 unfold kX
 by_cases hl:p.ay=p.b_y
 ·rw [if_pos hl]
  simp only [if_pos hl] at d0
  have hlt:p.ax<p.bx:=by
   unfold vh lA lB at hp
   unfold lA lB at hne
   simp only [ne_eq,Prod.mk.injEq,not_and] at hp hne
   omega
  have key:wy es p- Ir es p=Qe es p:=by
   rw [d0]
   unfold wy
   rw [←yu]
   have e1:sm (fun e:Leg=> (if Q5 e=p then 0 else Qw (Q2 true e) (vC p) (KU p)) - (if Q5 e=p then 0 else Qw (ZW (Q2 true e)) (-(KU p)) (vC p))) es
     =sm (fun e:Leg=> (qu (2*e.ax) (2*e.ay) (vC p) (KU p) - qu (2*e.bx) (2*e.b_y) (vC p) (KU p)) + (if Q5 e=p then sg e else 0)) es:=by
    refine JW fun e he=> ?_
    split
    ·rename_i hn
     have hq1:qu (2*p.ax) (2*p.ay) (vC p) (KU p) =0:=by unfold qu vC;rw [if_neg Om]
     have hq2:qu (2*p.bx) (2*p.b_y) (vC p) (KU p) =1:=by unfold qu vC KU;rw [if_pos Om]
     rcases(Mj hp hne).1 hn with rfl | rfl
     ·rw [CI hp,hq1,hq2];rfl
     ·rw [jdh hp hne]
      simp only [Qn]
      rw [hq1,hq2];rfl
    ·rename_i hn
     have:=jdx (e:=Q2 true e) (hc hl e he hn)
     simp only [Q2,if_true] at this⊢
     rw [this]
     omega
   rw [e1,xM,hf.close fun x y=>qu (2*x) (2*y) (vC p) (KU p)]
   unfold Qe
   omega
  rw [show wy es p=Ir es p+Qe es p by omega,show Ir es p+Qe es p- Qe es p=Ir es p by omega]
 ·rw [if_neg hl]
  simp only [if_neg hl] at d0
  have:Ir es p=wy es p:=d0
  rw [this]
theorem U5 {e:Leg} (hne:lA e≠lB e) :Q5 (Qn e) =Q5 e:=by
 unfold Q5
 rcases U4 (lA e) (lB e) with h | h | h
 ·rw [if_pos (show vh (lB (Qn e)) (lA (Qn e)) from h),if_neg fun k=>kC _ (Vx h k)]
  rfl
 ·exact absurd h hne
 ·rw [if_pos h,if_neg (show¬vh (lB (Qn e)) (lA (Qn e)) from fun k=>kC _ (Vx (show vh (lA e) (lB e) from k) h))]
theorem jeN (e:Leg) :vC (Q5 e) =e.ax+e.bx∧KU (Q5 e) =e.ay+e.b_y∧((Q5 e).ay= (Q5 e).b_y↔e.ay=e.b_y) :=by
 unfold Q5 vC KU
 split
 ·simp only [Qn];omega
 ·exact⟨rfl,rfl,Iff.rfl⟩
theorem jgK {e:Leg} (hne:lA e≠lB e) :lA (Q5 e)≠lB (Q5 e) :=by
 unfold Q5
 split
 ·exact fun h=>hne h.symm
 ·exact hne
theorem yN {es:List Leg} {e:Leg} (h:e∈es) :∃i,i<es.length∧lg es i=e:=by
 obtain ⟨i,hi,rfl⟩ :=ji0 h
 exact⟨i,hi,(Uz hi).symm⟩
theorem jcv {es m:List Leg} {l:List Nt} (hl:l=Qd false es []) (hr:Ed m) (hm:∀q,q∈m↔∃e∈es,q=Q5 e) :l.map (·.e) =QR m:=by
 have ha:x5 l:=by rw [hl];exact wY List.Pairwise.nil
 refine zv (List.pairwise_map.2 ha) (Dq hr) fun q=> ?_
 rw [Zt,hm,jip,hl]
 rw [show(∃a∈Qd false es [],a.e=q)↔_ from wZ]
 simp
end Go.Proofs.YtpncbbcmoiiipaaGreat
