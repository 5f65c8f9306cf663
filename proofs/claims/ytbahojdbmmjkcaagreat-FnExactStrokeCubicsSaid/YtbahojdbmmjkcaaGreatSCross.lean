import Derived.Test.YtbahojdbmmjkcaaGreatSHot
import Derived.Test.YtbahojdbmmjkcaaGreatSPix
import Derived.Test.YtbahojdbmmjkcaaGreatSTo
set_option linter.unusedVariables false
set_option linter.unusedSimpArgs false
namespace Go.Proofs.YtbahojdbmmjkcaaGreat
open Go Go.RowKit
variable {D N d:Int} {a b c:Pn} {e p:Leg} {es:List Leg} {k:Nat} {s:Bool} {α:Type}
theorem jfu (a b p:Pn) :tn b a p= -tn a b p:=by simp only [tn,Kw];grind
theorem Tm (a b p:Pn) :UZ a b p=UZ b a p:=by
 have:tn a b p=0↔tn b a p=0:=by have:=jfu a b p;omega
 rw [jiK,Ky,Ky,this,Int.min_comm,Int.max_comm,Int.min_comm a.2,Int.max_comm a.2]
theorem K9 {d:Pn} :Qc a b c d=true↔((tn a b c<0∧0<tn a b d)∨(0<tn a b c∧tn a b d<0))∧((tn c d a<0∧0<tn c d b)∨(0<tn c d a∧tn c d b<0)) :=by
 simp only [Qc,jig,decide_eq_true_eq,zZ]
theorem L8 {n r:Int} (hd:0<d) :yz n d=r↔(2*r- 1) *d≤2*n∧2*n< (2*r+1) *d:=by
 have h1:=Int.emod_nonneg n (show d≠0 by omega)
 have h2:=Int.emod_lt_of_pos n hd
 have h3:=Int.mul_ediv_add_emod n d
 have key: (2*yz n d- 1) *d≤2*n∧2*n< (2*yz n d+1) *d:=by
  unfold yz
  split
  ·have e: (2* (n/d+1) - 1) *d=2* (d* (n/d)) +d:=by grind
   have e': (2* (n/d+1) +1) *d=2* (d* (n/d)) +3*d:=by grind
   omega
  ·have e: (2* (n/d) - 1) *d=2* (d* (n/d)) - d:=by grind
   have e': (2* (n/d) +1) *d=2* (d* (n/d)) +d:=by grind
   omega
 constructor
 ·intro h;rw [←h];exact key
 ·rintro⟨k1,k2⟩
  have a1: (2*r- 1) *d< (2*yz n d+1) *d:=by omega
  have a2: (2*yz n d- 1) *d< (2*r+1) *d:=by omega
  have b1:=ji4 a1 (jjA hd)
  have b2:=ji4 a2 (jjA hd)
  omega
theorem XP {n n' d':Int} (hd:0<d) (hd':0<d') (h:n*d'=n'*d) :yz n d=yz n' d':=by
 obtain ⟨k1,k2⟩ := (L8 (n:=n') hd').1 rfl
 rw [L8 hd]
 generalize yz n' d'=r at*
 have e1: (2*r- 1) *d'*d≤2*n'*d:=jih k1 (jjA hd)
 have e2:2*n'*d< (2*r+1) *d'*d:=jiQ k2 hd
 have e3:2*n'*d=2*n*d':=by grind
 rw [e3] at e1 e2
 have e4: (2*r- 1) *d'*d= (2*r- 1) *d*d':=by grind
 have e5: (2*r+1) *d'*d= (2*r+1) *d*d':=by grind
 rw [e4] at e1
 rw [e5] at e2
 exact⟨jiT e1 hd',ji4 e2 (jjA hd')⟩
theorem Sa {x y u v n n' d':Int} (hd:d≠0) (hd':d'≠0) (h: (x*d+ (y- x) *n) *d'= (u*d'+ (v- u) *n') *d) :BJ x y n d=BJ u v n' d':=by
 unfold BJ
 split<;>split
 ·exact XP Om Om (by grind)
 ·exact XP Om Om (by grind)
 ·exact XP Om Om (by grind)
 ·exact XP Om Om (by grind)
theorem No {d:Pn} (h:EX a b c d≠0) (h':EX c d a b≠0) :F0 c d a b=F0 a b c d:=by
 obtain ⟨a1,a2⟩ :=a;obtain ⟨b1,b2⟩ :=b;obtain ⟨c1,c2⟩ :=c;obtain ⟨d1,d2⟩ :=d
 unfold F0
 refine Prod.ext (Sa h' h ?_) (Sa h' h ?_)
 ·simp only [Gn,xe,tn,Kw];grind
 ·simp only [Gn,xe,tn,Kw];grind
def Ctn (s:Sp) (N D:Int) :Prop:= (s.ln*D<N*s.ld∨(s.ln*D=N*s.ld∧s.lc=true))∧(N*s.hd<s.hn*D∨(N*s.hd=s.hn*D∧s.hc=true))
theorem jem {s:Sp} (hD:0<D) (hl:0<s.ld) (hh:0<s.hd) (h:Ctn s N D) :vp s=true:=by
 obtain ⟨h1,h2⟩ :=h
 simp only [vp,ji2,jig,decide_eq_true_eq]
 rcases h1 with h1 |⟨h1,c1⟩
 ·left
  have:=VD (a:=s.ln) (b:=s.ld) (c:=N) (d:=D) (e:=s.hn) (f:=s.hd) hD hl hh h1 (by rcases h2 with h2 |⟨h2,_⟩ <;>omega)
  omega
 ·rcases h2 with h2 |⟨h2,c2⟩
  ·left
   have:=vj (a:=s.ln) (b:=s.ld) (c:=N) (d:=D) (e:=s.hn) (f:=s.hd) hD hl hh Om h2
   omega
  ·have:=Vd (a:=s.ln) (b:=s.ld) (c:=N) (d:=D) (e:=s.hn) (f:=s.hd) hD hl hh Om Om
   by_cases e:s.ln*s.hd- s.hn*s.ld=0
   ·exact .inr ⟨⟨e,c1⟩,c2⟩
   ·left;omega
theorem Sb {s x:Sp} (h:Ctn s N D) (hx:Ctn x N D) :Ctn (J5 s x) N D:=by
 have hl:Ctn (qT s x) N D:=by unfold qT;split;exact⟨hx.1,h.2⟩;exact h
 unfold J5 ko
 split
 ·exact⟨hl.1,hx.2⟩
 ·exact hl
theorem Ce (h0:0≤N) (h1:N≤D) :Ctn WG N D:=by
 unfold Ctn WG
 simp
 omega
def InC (f d lo N D:Int) :Prop:=lo*D≤f*D+d*N∧f*D+d*N< (lo+2) *D
theorem Cd {f lo:Int} (hD:0<D) (h0:0≤N) (h1:N≤D) (h:InC f d lo N D) :KC f d lo=true∧Ctn (QZ f d lo) N D:=by
 obtain ⟨k1,k2⟩ :=h
 unfold KC QZ
 by_cases p:0<d
 ·rw [if_pos p]
  refine⟨by simp;omega,?_,?_⟩
  ·have e: (lo- f) *D=lo*D- f*D:=by grind
   have e':N*d=d*N:=jiW _ _
   show(lo- f) *D<N*d∨((lo- f) *D=N*d∧true=true)
   rcases Int.lt_or_eq_of_le (show(lo- f) *D≤N*d by omega) with h | h
   ·exact .inl h
   ·exact .inr ⟨h,rfl⟩
  ·left
   have e: (lo+2- f) *D= (lo+2) *D- f*D:=by grind
   have e':N*d=d*N:=jiW _ _
   show N*d< (lo+2- f) *D
   omega
 ·rw [if_neg p]
  by_cases q:d<0
  ·rw [if_pos q]
   refine⟨by simp;omega,?_,?_⟩
   ·left
    have e: (f- lo- 2) *D=f*D- (lo+2) *D:=by grind
    have e':N* -d= -(d*N) :=by grind
    show(f- lo- 2) *D<N* -d
    omega
   ·have e: (f- lo) *D=f*D- lo*D:=by grind
    have e':N* -d= -(d*N) :=by grind
    show N* -d< (f- lo) *D∨(N* -d= (f- lo) *D∧true=true)
    rcases Int.lt_or_eq_of_le (show N* -d≤(f- lo) *D by omega) with h | h
    ·exact .inl h
    ·exact .inr ⟨h,rfl⟩
  ·rw [if_neg q]
   have d0:d=0:=by omega
   subst d0
   have e:f*D+0*N=f*D:=by omega
   rw [e] at k1 k2
   have g1:=jiT k1 hD
   have g2:=ji4 k2 (jjA hD)
   exact⟨by simp;omega,Ce h0 h1⟩
theorem jgr {f lo f' d' lo':Int} (hD:0<D) (h0:0≤N) (h1:N≤D) (h:InC f d lo N D) (h':InC f' d' lo' N D) :Xb f d lo f' d' lo'=true:=by
 obtain ⟨a1,a2⟩ :=Cd hD h0 h1 h
 obtain ⟨b1,b2⟩ :=Cd hD h0 h1 h'
 have p1:=KM uZ (Ke f d lo)
 have p2:=KM p1 (Ke f' d' lo')
 rw [Xb,a1,b1,jem hD p2.1 p2.2 (Sb (Sb (Ce h0 h1) a2) b2)]
 rfl
def ipB (a b p:Pn) :Bool:=wX a.1 a.2&&wX b.1 b.2&&wX p.1 p.2&&Xb (2*a.1) (2* (b.1- a.1)) (2*p.1- 1) (2*a.2) (2* (b.2- a.2)) (2*p.2- 1)
theorem jfF {p:Pn} (ha:bd2 a) (hb:bd2 b) (hp:bd2 p) (hD:0<D) (h0:0≤N) (h1:N≤D) (hx: (2*p.1- 1) *D≤2* (a.1*D+ (b.1- a.1) *N)∧2* (a.1*D+ (b.1- a.1) *N) < (2*p.1+1) *D) (hy: (2*p.2- 1) *D≤2* (a.2*D+ (b.2- a.2) *N)∧2* (a.2*D+ (b.2- a.2) *N) < (2*p.2+1) *D) :ipB a b p=true:=by
 rw [ipB,yQ ha,yQ hb,yQ hp,jiJ,jiJ,jiJ]
 refine jgr hD h0 h1 ?_ ?_
 ·have e:2*a.1*D+2* (b.1- a.1) *N=2* (a.1*D+ (b.1- a.1) *N) :=by grind
  have e2: (2*p.1- 1+2) *D= (2*p.1+1) *D:=by grind
  unfold InC
  rw [e,e2]
  exact hx
 ·have e:2*a.2*D+2* (b.2- a.2) *N=2* (a.2*D+ (b.2- a.2) *N) :=by grind
  have e2: (2*p.2- 1+2) *D= (2*p.2+1) *D:=by grind
  unfold InC
  rw [e,e2]
  exact hy
theorem CG {x y B r:Int} (hx: -B≤x∧x≤B) (hy: -B≤y∧y≤B) (hD:0<D) (h0:0≤N) (h1:N≤D) (h: (2*r- 1) *D≤2* (x*D+ (y- x) *N)∧2* (x*D+ (y- x) *N) < (2*r+1) *D) : -B≤r∧r≤B:=by
 have e:x*D+ (y- x) *N=x* (D- N) +y*N:=by grind
 rw [e] at h
 have a1:x* (D- N)≤B* (D- N) :=jih hx.2 Om
 have a2:y*N≤B*N:=jih hy.2 h0
 have a3: -B* (D- N)≤x* (D- N) :=jih hx.1 Om
 have a4: -B*N≤y*N:=jih hy.1 h0
 have e1:B* (D- N) +B*N=B*D:=by grind
 have e2: -B* (D- N) + -B*N= -B*D:=by grind
 have k1: (2*r- 1) *D≤(2*B) *D:=by
  have:2*B*D=2* (B*D) :=by grind
  omega
 have k2: (2* -B) *D< (2*r+1) *D:=by
  have:2* -B*D=2* (-B*D) :=by grind
  omega
 have m1:=jiT k1 hD
 have m2:=ji4 k2 (jjA hD)
 omega
theorem Nr {x y n:Int} (hd:d≠0) :∃N D:Int,0<D∧((d<0∧N= -n∧D= -d)∨(0<d∧N=n∧D=d))∧(2*BJ x y n d- 1) *D≤2* (x*D+ (y- x) *N)∧2* (x*D+ (y- x) *N) < (2*BJ x y n d+1) *D:=by
 unfold BJ
 split
 ·exact⟨-n,-d,by omega, .inl ⟨by assumption,rfl,rfl⟩,(L8 Om).1 rfl⟩
 ·exact⟨n,d,by omega, .inr ⟨by omega,rfl,rfl⟩,(L8 Om).1 rfl⟩
theorem EY {d:Pn} (ha:bd2 a) (hb:bd2 b) (hs:Qc a b c d=true) :bd2 (F0 a b c d)∧ipB a b (F0 a b c d) =true:=by
 have hD:=Uu hs
 have hs2:= (K9.1 hs).2
 rw [←xe a c d] at hs2
 have e:=Gn a b c d
 rw [←xe a c d] at e
 obtain ⟨N,D,h0,h1,hx⟩ :=Nr (x:=a.1) (y:=b.1) (n:=crN a c d) hD
 obtain ⟨N',D',_,h1',hy⟩ :=Nr (x:=a.2) (y:=b.2) (n:=crN a c d) hD
 obtain rfl:N'=N:=by omega
 obtain rfl:D'=D:=by omega
 have n0:0≤N'∧N'≤D':=by omega
 have m1:=CG ha.1 hb.1 h0 n0.1 n0.2 hx
 have m2:=CG ha.2 hb.2 h0 n0.1 n0.2 hy
 have hp:bd2 (F0 a b c d) :=⟨m1,m2⟩
 exact⟨hp,jfF ha hb hp h0 n0.1 n0.2 hx hy⟩
theorem jgM {p:Pn} (ha:bd2 a) (hb:bd2 b) (h:UZ a b p=true) :bd2 p∧ipB a b p=true:=by
 obtain ⟨ht,hx,hy⟩ :=Ky.1 h
 have hp:bd2 p:=by
  obtain ⟨⟨a1,a2⟩,a3,a4⟩ :=ha
  obtain ⟨⟨b1,b2⟩,b3,b4⟩ :=hb
  refine⟨⟨?_,?_⟩,?_,?_⟩ <;>omega
 have ht': (b.1- a.1) * (p.2- a.2) = (b.2- a.2) * (p.1- a.1) :=by simp only [tn,Kw] at ht;omega
 have key:∀N D:Int,0<D→0≤N→N≤D→a.1*D+ (b.1- a.1) *N=p.1*D→a.2*D+ (b.2- a.2) *N=p.2*D→ipB a b p=true:=by
  intro N D h0 h1 h2 e1 e2
  refine jfF ha hb hp h0 h1 h2 ?_ ?_
  ·rw [e1]
   have g1: (2*p.1- 1) *D=2* (p.1*D) - D:=by grind
   have g2: (2*p.1+1) *D=2* (p.1*D) +D:=by grind
   omega
  ·rw [e2]
   have g1: (2*p.2- 1) *D=2* (p.2*D) - D:=by grind
   have g2: (2*p.2+1) *D=2* (p.2*D) +D:=by grind
   omega
 refine⟨hp,?_⟩
 rcases ji6 a.1 b.1 with h1 | h1 | h1
 ·exact key (p.1- a.1) (b.1- a.1) Om Om Om (by grind) (by grind)
 ·rcases ji6 a.2 b.2 with h2 | h2 | h2
  ·exact key (p.2- a.2) (b.2- a.2) Om Om Om (by grind) (by grind)
  ·have e1:p.1=a.1:=by omega
   have e2:p.2=a.2:=by omega
   exact key 0 1 Om Om Om Om Om
  ·exact key (a.2- p.2) (a.2- b.2) Om Om Om (by grind) (by grind)
 ·exact key (a.1- p.1) (a.1- b.1) Om Om Om (by grind) (by grind)
def ZT (e f:Leg) :Prop:=ww (lA e) (lA f)∨(lA e=lA f∧ww (lB e) (lB f))
instance (e f:Leg) :Decidable (ZT e f) :=by unfold ZT;exact inferInstance
theorem Xi {f:Leg} (h1:lA e=lA f) (h2:lB e=lB f) :e=f:=by
 rcases e with⟨a1,a2,a3,a4⟩
 rcases f with⟨b1,b2,b3,b4⟩
 simp only [lA,lB,Prod.mk.injEq] at h1 h2
 rw [h1.1,h1.2,h2.1,h2.2]
theorem yk {f g:Leg} (h:ZT e f) (h':ZT f g) :ZT e g:=by
 rcases h with h |⟨h1,h2⟩
 ·rcases h' with h' |⟨h3,_⟩
  ·exact .inl (vY h h')
  ·exact .inl (h3▸h)
 ·rcases h' with h' |⟨h3,h4⟩
  ·exact .inl (h1▸h')
  ·exact .inr ⟨h1.trans h3,vY h2 h4⟩
theorem K8 (e:Leg) :¬ZT e e:=by
 rintro(h |⟨_,h⟩) <;>exact Q8 _ h
theorem LW (e f:Leg) :ZT e f∨e=f∨ZT f e:=by
 rcases UE (lA e) (lA f) with h | h | h
 ·exact .inl (.inl h)
 ·rcases UE (lB e) (lB f) with h' | h' | h'
  ·exact .inl (.inr ⟨h,h'⟩)
  ·exact .inr (.inl (Xi h h'))
  ·exact .inr (.inr (.inr ⟨h.symm,h'⟩))
 ·exact .inr (.inr (.inl h))
theorem Pf {f g:Leg} (h:¬ZT e f) (h':¬ZT f g) :¬ZT e g:=fun k=>by
 rcases LW f g with c | c | c
 ·exact h' c
 ·exact h (c▸k)
 ·exact h (yk k c)
def jf5 (l:List Leg) :Prop:=l.Pairwise ZT
theorem Ms:∀ {l m:List Leg},jf5 l→jf5 m→(∀p,p∈l↔p∈m)→l=m
 | [],[],_,_,_=>rfl
 | [],q::m,_,_,h=>absurd ((h q).2 (by simp)) (by simp)
 | p::l,[],_,_,h=>absurd ((h p).1 (by simp)) (by simp)
 | p::l,q::m,hl,hm,h=>by
  have kl:=jiN.1 hl
  have km:=jiN.1 hm
  have e:p=q:=by
   rcases jis.1 ((h p).1 (by simp)) with e | h1
   ·exact e
   ·rcases jis.1 ((h q).2 (by simp)) with e | h2
    ·exact e.symm
    ·exact absurd (yk (kl.1 q h2) (km.1 p h1)) (K8 p)
  subst e
  congr 1
  refine Ms kl.2 km.2 fun r=> ?_
  constructor
  ·intro hr
   rcases jis.1 ((h r).1 (jiz _ hr)) with e | h1
   ·exact absurd (e▸kl.1 r hr) (K8 _)
   ·exact h1
  ·intro hr
   rcases jis.1 ((h r).2 (jiz _ hr)) with e | h1
   ·exact absurd (e▸km.1 r hr) (K8 _)
   ·exact h1
def QU:List Leg→List Leg
 | [] => []
 | [p] => [p]
 | p::q::l=>if p=q then QU (q::l) else p::QU (q::l)
theorem Zn:∀(l:List Leg) (r:Leg),r∈QU l↔r∈l
 | [],_=>Iff.rfl
 | [_],_=>Iff.rfl
 | p::q::l,r=>by
  unfold QU
  split
  ·rename_i e
   rw [Zn (q::l) r,e]
   simp
  ·rw [jis,Zn (q::l) r]
   simp
def EH (l:List Leg) :Prop:=l.Pairwise fun p q=>¬ZT q p
theorem DJ:∀ {l:List Leg},EH l→jf5 (QU l)
 | [],_=>List.Pairwise.nil
 | [p],_=>jjD _ _
 | p::q::l,h=>by
  have h1:=jiN.1 h
  have ih:=DJ (l:=q::l) h1.2
  unfold QU
  split
  ·exact ih
  ·rename_i hne
   refine jiN.2 ⟨fun r hr=> ?_,ih⟩
   rw [Zn] at hr
   have hpq:ZT p q:=by
    rcases LW p q with h2 | h2 | h2
    ·exact h2
    ·exact absurd h2 hne
    ·exact absurd h2 (h1.1 q (by simp))
   rcases jis.1 hr with e | hr
   ·rw [e];exact hpq
   ·have h3:= (jiN.1 h1.2).1 r hr
    rcases LW q r with c | c | c
    ·exact yk hpq c
    ·exact c▸hpq
    ·exact absurd c h3
def vW (e:Leg) :Leg:=⟨e.bx,e.b_y,e.ax,e.ay⟩
def KR (e:Leg) :Leg:=if ww (lB e) (lA e) then vW e else e
def sg (e:Leg) :Int:=if ww (lB e) (lA e) then-1 else 1
theorem Fp (e:Leg) :vW (vW e) =e:=rfl
theorem jcP (h:qU e) :qU (KR e) :=by
 unfold KR
 split
 ·exact⟨h.2.2.1,h.2.2.2,h.1,h.2.1⟩
 ·exact h
theorem jeX (e:Leg) :¬ww (lB (KR e)) (lA (KR e)) :=by
 unfold KR
 split
 ·rename_i h
  intro k
  exact Q8 _ (vY h k)
 ·assumption
theorem LZ (hp:¬ww (lB p) (lA p)) (hne:lA p≠lB p) :KR e=p↔e=p∨e=vW p:=by
 unfold KR
 constructor
 ·split
  ·intro h
   exact .inr (by rw [←h];rfl)
  ·exact .inl
 ·rintro(rfl | rfl)
  ·rw [if_neg hp]
  ·have:ww (lB (vW p)) (lA (vW p)) :=by
    rcases UE (lA p) (lB p) with h | h | h
    ·exact h
    ·exact absurd h hne
    ·exact absurd h hp
   rw [if_pos this,Fp]
theorem Ee (hp:¬ww (lB p) (lA p)) :sg p=1:=if_neg hp
theorem jdw (hp:¬ww (lB p) (lA p)) (hne:lA p≠lB p) :sg (vW p) = -1:=by
 have:ww (lB (vW p)) (lA (vW p)) :=by
  rcases UE (lA p) (lB p) with h | h | h
  ·exact h
  ·exact absurd h hne
  ·exact absurd h hp
 exact if_pos this
def sm {α:Type} (f:α→Int) :List α→Int
 | [] =>0
 | x::l=>f x+sm f l
theorem yF {α:Type} (f:α→Int) :∀a b:List α,sm f (a++b) =sm f a+sm f b
 | [],b=>by simp [sm]
 | x::a,b=>by simp only [jiI,sm,yF f a b];omega
theorem yG {α:Type} {f g:α→Int} :∀ {l:List α},(∀x∈l,f x=g x)→sm f l=sm g l
 | [],_=>rfl
 | x::l,h=>by simp only [sm];rw [h x (by simp),yG fun y hy=>h y (jiz _ hy)]
theorem jdA {α:Type} (f g:α→Int) :∀l:List α,sm (fun x=>f x+g x) l=sm f l+sm g l
 | [] =>rfl
 | x::l=>by simp only [sm,jdA f g l];omega
theorem jdD {α:Type} (f g:α→Int) :∀l:List α,sm (fun x=>f x- g x) l=sm f l- sm g l
 | [] =>rfl
 | x::l=>by simp only [sm,jdD f g l];omega
theorem jfX {α:Type} {f:α→Int} :∀ {l:List α},(∀x∈l,-1≤f x∧f x≤1)→-(l.length:Int)≤sm f l∧sm f l≤l.length
 | [],_=>by simp [sm]
 | x::l,h=>by
  have h1:=h x (by simp)
  have h2:=jfX (l:=l) fun y hy=>h y (jiz _ hy)
  simp only [sm,jij]
  omega
structure Nt where
 e:Leg
 one:Int
 two:Int
 l1:Int
 l2:Int
def qm (x:Nt) :List Value:=Je x.e++ [.int .i64 x.one, .int .i64 x.two, .int .i64 x.l1, .int .i64 x.l2]
def zw (e:Leg) :Nt:=⟨e,0,0,0,0⟩
def nt (l:List Nt) (k:Nat) :Nt:=l.getD k (zw ⟨0,0,0,0⟩)
theorem YV {l:List Nt} (h:k<l.length) :l[k] =nt l k:=by simp [nt,List.getD,List.getElem?_eq_getElem h]
def VY (s:Bool) (n:Int) (x:Nt) :Nt:=if s=true then {x with two:=x.two+n} else {x with one:=x.one+n}
theorem xV (s:Bool) (n:Int) (x:Nt) : (VY s n x).e=x.e:=by unfold VY;split<;>rfl
def Wa (s:Bool) (e:Leg) :List Nt→List Nt
 | [] => [VY s (sg e) (zw (KR e))]
 | x::l=>if ZT x.e (KR e) then x::Wa s e l else if x.e=KR e then VY s (sg e) x::l else VY s (sg e) (zw (KR e)) ::x::l
def Gu (l:List Nt) (k:Nat) (e:Leg) :List Nt:=l.take k++zw e::l.drop k
theorem RJ {s:Bool} {e:Leg} :∀ {l:List Nt} {k:Nat},k≤l.length→(∀j,j<k→ZT (nt l j).e (KR e))→(k<l.length→¬ZT (nt l k).e (KR e)∧(nt l k).e≠KR e)→
  Wa s e l= (Gu l k (KR e)).set k (VY s (sg e) (nt (Gu l k (KR e)) k))
 | [],k,hk,_,_=>by
  have:k=0:=by simpa using hk
  subst this
  rfl
 | x::l,0,_,_,h=>by
  have:¬ZT x.e (KR e)∧x.e≠KR e:=h (by simp)
  rw [Wa,if_neg this.1,if_neg this.2]
  rfl
 | x::l,k+1,hk,h1,h2=>by
  have h0:ZT x.e (KR e) :=h1 0 Om
  rw [Wa,if_pos h0,RJ (l:=l) (k:=k) (by simpa using hk) (fun j hj=>h1 (j+1) Om) (fun hk'=>h2 (by simpa using hk'))]
  rfl
theorem RK {s:Bool} {e:Leg} :∀ {l:List Nt} {k:Nat},k<l.length→(∀j,j<k→ZT (nt l j).e (KR e))→(nt l k).e=KR e→
  Wa s e l=l.set k (VY s (sg e) (nt l k))
 | [],k,hk,_,_=>absurd hk (by simp)
 | x::l,0,_,_,h=>by
  have h':x.e=KR e:=h
  rw [Wa,if_neg (by rw [h'];exact K8 _),if_pos h']
  rfl
 | x::l,k+1,hk,h1,h2=>by
  have h0:ZT x.e (KR e) :=h1 0 Om
  rw [Wa,if_pos h0,RK (l:=l) (k:=k) (by simpa using hk) (fun j hj=>h1 (j+1) Om) h2]
  rfl
theorem Mn {s:Bool} {e q:Leg} :∀ {l:List Nt},(∃x∈Wa s e l,x.e=q)↔(∃x∈l,x.e=q)∨q=KR e
 | [] =>by simp [Wa,xV,zw,eq_comm]
 | x::l=>by
  have ih:=Mn (s:=s) (e:=e) (q:=q) (l:=l)
  unfold Wa
  split
  ·simp only [jis,exists_eq_or_imp,ih,or_assoc]
  ·split
   ·rename_i h
    simp only [jis,exists_eq_or_imp,xV]
    constructor
    ·exact .inl
    ·rintro(h1 | h1)
     ·exact h1
     ·exact .inl (h1▸h)
   ·simp only [jis,exists_eq_or_imp,xV]
    constructor
    ·rintro(h1 | h1)
     ·exact .inr h1.symm
     ·exact .inl h1
    ·rintro(h1 | h1)
     ·exact .inr h1
     ·exact .inl h1.symm
def Ge (l:List Nt) :Prop:=l.Pairwise fun x y=>ZT x.e y.e
theorem RH {s:Bool} {e:Leg} :∀ {l:List Nt},Ge l→Ge (Wa s e l)
 | [],_=>jjD _ _
 | x::l,h=>by
  have h1:=jiN.1 h
  unfold Wa
  split
  ·rename_i hx
   refine jiN.2 ⟨fun y hy=> ?_,RH h1.2⟩
   rcases(Mn (q:=y.e)).1 ⟨y,hy,rfl⟩ with⟨z,hz,e1⟩ | e1
   ·rw [←e1];exact h1.1 z hz
   ·rw [e1];exact hx
  ·rename_i hx
   split
   ·refine jiN.2 ⟨fun y hy=> ?_,h1.2⟩
    rw [xV];exact h1.1 y hy
   ·rename_i hne
    have hlt:ZT (KR e) x.e:=by
     rcases LW (KR e) x.e with c | c | c
     ·exact c
     ·exact absurd c.symm hne
     ·exact absurd c hx
    refine jiN.2 ⟨fun y hy=> ?_,h⟩
    rw [xV]
    rcases jis.1 hy with c | hy
    ·rw [c];exact hlt
    ·exact yk hlt (h1.1 y hy)
def Vm (s:Bool) (x:Nt) :Int:=if s=true then x.two else x.one
def wS (s:Bool) (F:Leg→Int) (l:List Nt) :Int:=sm (fun x=>Vm s x*F x.e) l
theorem jbj {s t:Bool} {e:Leg} (F:Leg→Int) :∀(l:List Nt),wS t F (Wa s e l) =wS t F l+ (if s=t then sg e*F (KR e) else 0)
 | [] =>by
  cases s<;>cases t<;>simp [wS,Wa,sm,Vm,VY,zw]
 | x::l=>by
  have ih:=jbj (s:=s) (t:=t) (e:=e) F l
  unfold wS at ih⊢
  unfold Wa
  split
  ·simp only [sm,ih];omega
  ·split
   ·rename_i h
    cases s<;>cases t<;>simp [sm,Vm,VY,h] <;>grind
   ·cases s<;>cases t<;>simp [sm,Vm,VY,zw] <;>grind
def Qj (s:Bool) (es:List Leg) (l:List Nt) :List Nt:=es.foldl (fun l e=>Wa s e l) l
theorem WN {s:Bool} :∀ {es:List Leg} {l:List Nt},Ge l→Ge (Qj s es l)
 | [],_,h=>h
 | e::es,l,h=>WN (es:=es) (RH (e:=e) h)
theorem WP {s:Bool} {q:Leg} :∀ {es:List Leg} {l:List Nt},(∃x∈Qj s es l,x.e=q)↔(∃x∈l,x.e=q)∨∃e∈es,q=KR e
 | [],l=>by simp [Qj]
 | e::es,l=>by
  have:=WP (s:=s) (q:=q) (es:=es) (l:=Wa s e l)
  unfold Qj at this⊢
  rw [ji7,this,Mn]
  simp only [jis,exists_eq_or_imp,or_assoc]
theorem YT {s t:Bool} (F:Leg→Int) :∀(es:List Leg) (l:List Nt),wS t F (Qj s es l) =wS t F l+ (if s=t then sm (fun e=>sg e*F (KR e)) es else 0)
 | [],l=>by simp [Qj,sm]
 | e::es,l=>by
  have:=YT (s:=s) (t:=t) F es (Wa s e l)
  unfold Qj at this⊢
  rw [ji7,this,jbj]
  split<;> (try simp only [sm]) <;>omega
theorem RI {s:Bool} {e:Leg} :∀(l:List Nt),(Wa s e l).length≤l.length+1
 | [] =>by simp [Wa]
 | x::l=>by
  have:=RI (s:=s) (e:=e) l
  unfold Wa
  split
  ·simp only [jij];omega
  ·split<;>simp only [jij] <;>omega
def ZD (x:Int) :Int:=if x<0 then-x else x
theorem Ie (x:Int) :0≤ZD x:=by unfold ZD;split<;>omega
theorem Cm (x:Int) : -ZD x≤x∧x≤ZD x:=by unfold ZD;split<;>omega
def aS (s:Bool) (l:List Nt) :Int:=sm (fun x=>ZD (Vm s x)) l
theorem TQ (e:Leg) :sg e=1∨sg e= -1:=by unfold sg;split<;>simp
theorem jbi {s t:Bool} {e:Leg} :∀(l:List Nt),aS t (Wa s e l)≤aS t l+ (if s=t then 1 else 0)
 | [] =>by
  have:=TQ e
  cases s<;>cases t<;>simp [aS,Wa,sm,Vm,VY,zw,ZD] <;>omega
 | x::l=>by
  have ih:=jbi (s:=s) (t:=t) (e:=e) l
  have:=TQ e
  unfold aS at ih⊢
  unfold Wa
  split
  ·simp only [sm];omega
  ·split
   ·cases s<;>cases t<;>simp [sm,Vm,VY,ZD] <;> (repeat' split) <;>omega
   ·cases s<;>cases t<;>simp [sm,Vm,VY,zw,ZD] <;> (repeat' split) <;>omega
theorem YS {s t:Bool} :∀(es:List Leg) (l:List Nt),aS t (Qj s es l)≤aS t l+ (if s=t then(es.length:Int) else 0)
 | [],l=>by simp [Qj]
 | e::es,l=>by
  have h1:=YS (s:=s) (t:=t) es (Wa s e l)
  have h2:=jbi (s:=s) (t:=t) (e:=e) l
  unfold Qj at h1⊢
  rw [ji7]
  split at h1<;>split at h2<;>simp only [jij] <;> (try split) <;>simp_all<;>omega
structure Ne where
 e:Leg
 net:Int
 left:Int
 right:Int
def wW (p:Leg) :Int:=p.ax+p.bx
def Wh (p:Leg) :Int:=p.ay+p.b_y
def Xq (es:List Leg) (p:Leg) :Int:=sm (fun e=>if KR e=p then sg e else 0) es
def Dm (es:List Leg) (p:Leg) :Int:=sm (fun e=>if KR e=p then 0 else KE (vF true e) (wW p) (Wh p)) es
def xL (es:List Leg) (p:Leg) :Ne:=if p.ay=p.b_y then⟨p,Xq es p,Dm es p,Dm es p- Xq es p⟩ else⟨p,Xq es p,Dm es p+Xq es p,Dm es p⟩
def ZJ (e:Leg) :Leg:=⟨-e.ay,e.ax,-e.b_y,e.bx⟩
def BR (p q:Leg) :Int:=if p.ay=p.b_y then KE (ZJ (vF true q)) (-(Wh p)) (wW p) else KE (vF true q) (wW p) (Wh p)
def QE (s:Bool) (l:List Nt) (k:Nat) :Nat→Int
 | 0=>0
 | i+1=>QE s l k i+ (if i=k then 0 else Vm s (nt l i) *BR (nt l k).e (nt l i).e)
theorem jdW (l:Leg) (x y:Int) : -1≤KE l x y∧KE l x y≤1:=by unfold KE;split<;> (try split) <;>omega
theorem jea (p q:Leg) : -1≤BR p q∧BR p q≤1:=by unfold BR;split<;>exact jdW _ _ _
theorem jcJ {c g:Int} (h: -1≤g∧g≤1) : -ZD c≤c*g∧c*g≤ZD c:=by
 have h1:=Cm c
 have:g= -1∨g=0∨g=1:=by omega
 rcases this with rfl | rfl | rfl<;>simp<;>omega
theorem L9 (f:α→Int) {l:List α} (h:k<l.length) :sm f (l.take (k+1)) =sm f (l.take k) +f l[k] :=by
 rw [jik h,yF]
 simp [sm]
theorem jdC {α:Type} {f:α→Int} (h:∀x,0≤f x) :∀l:List α,0≤sm f l
 | [] =>Int.le_refl _
 | x::l=>by
  have:=h x
  have:=jdC h l
  simp only [sm]
  omega
theorem Py {f:α→Int} (h:∀x,0≤f x) (l:List α) (k:Nat) :sm f (l.take k)≤sm f l:=by
 have e:sm f l=sm f (l.take k) +sm f (l.drop k) :=by rw [←yF,jiq]
 have:=jdC h (l.drop k)
 omega
theorem DE {s:Bool} {l:List Nt} {k:Nat} :∀i,i≤l.length→-sm (fun x=>ZD (Vm s x)) (l.take i)≤QE s l k i∧QE s l k i≤sm (fun x=>ZD (Vm s x)) (l.take i)
 | 0,_=>by simp [QE,sm]
 | i+1,h=>by
  have h1:=DE (s:=s) (l:=l) (k:=k) i Om
  have h2:=jcJ (c:=Vm s (nt l i)) (jea (nt l k).e (nt l i).e)
  have h3:=Ie (Vm s (nt l i))
  rw [L9 _ Om,YV Om,QE]
  split<;>omega
theorem U6 {l:List Nt} {i:Nat} (h:i≤l.length) : -aS s l≤QE s l k i∧QE s l k i≤aS s l:=by
 have h1:=DE (s:=s) (l:=l) (k:=k) i h
 have h2:=Py (f:=fun x=>ZD (Vm s x)) (fun x=>Ie _) l i
 unfold aS
 omega
theorem GF {l:List Nt} (h:k<l.length) :nt l k∈l:=by rw [←YV h];exact jir h
theorem jbo {l:List Nt} (h:Ge l) {i:Nat} (hi:i<l.length) (hk:k<l.length) (he: (nt l i).e= (nt l k).e) :i=k:=by
 rcases Nat.lt_trichotomy i k with c | c | c
 ·have:=jjc.1 h i k hi hk c
  rw [YV hi,YV hk,he] at this
  exact absurd this (K8 _)
 ·exact c
 ·have:=jjc.1 h k i hk hi c
  rw [YV hi,YV hk,he] at this
  exact absurd this (K8 _)
theorem RN {s:Bool} {l:List Nt} {k:Nat} (ha:Ge l) (hk:k<l.length) :∀i,i≤l.length→QE s l k i=sm (fun x=>Vm s x* (if x.e= (nt l k).e then 0 else BR (nt l k).e x.e)) (l.take i)
 | 0,_=>rfl
 | i+1,h=>by
  rw [L9 _ Om,YV Om,QE,RN ha hk i Om]
  congr 1
  by_cases e:i=k
  ·subst e
   simp
  ·rw [if_neg e,if_neg fun he=>e (jbo ha Om hk he)]
theorem EN {l:List Nt} (ha:Ge l) (hk:k<l.length) :QE s l k l.length=wS s (fun q=>if q= (nt l k).e then 0 else BR (nt l k).e q) l:=by
 rw [RN ha hk _ (jif _),jiM]
 rfl
theorem Ex {s:Bool} {p:Leg} :∀ {l:List Nt},(∀x∈l,x.e≠p)→wS s (fun q=>if q=p then 1 else 0) l=0
 | [],_=>rfl
 | x::l,h=>by
  have:=Ex (s:=s) (l:=l) fun y hy=>h y (jiz _ hy)
  unfold wS at*
  simp only [sm,this]
  rw [if_neg (h x (by simp))]
  simp
theorem jf3 {s:Bool} :∀ {l:List Nt} {x:Nt},Ge l→x∈l→wS s (fun q=>if q=x.e then 1 else 0) l=Vm s x
 | y::l,x,h,hx=>by
  have h1:=jiN.1 h
  rcases jis.1 hx with e | hx
  ·subst e
   have:=Ex (s:=s) (p:=x.e) (l:=l) fun z hz e=>K8 _ (e▸h1.1 z hz)
   unfold wS at*
   simp only [sm,this,if_true]
   omega
  ·have:=jf3 (s:=s) h1.2 hx
   have hne:y.e≠x.e:=fun e=>K8 _ (e▸h1.1 x hx)
   unfold wS at*
   simp only [sm,this,if_neg hne]
   omega
theorem X7 (l:Leg) (x y:Int) :KE l x y=if(l.ay≤y∧y<l.b_y)∧0<Kw l.ax l.ay l.bx l.b_y x y then 1 else if(l.b_y≤y∧y<l.ay)∧Kw l.ax l.ay l.bx l.b_y x y<0 then-1 else 0:=by
 unfold KE wUp YI
 simp only [jig,decide_eq_true_eq]
theorem FK (e:Leg) (x y:Int) :KE (vW e) x y= -KE e x y:=by
 have ht:Kw (vW e).ax (vW e).ay (vW e).bx (vW e).b_y x y= -Kw e.ax e.ay e.bx e.b_y x y:=by simp only [vW,Kw];grind
 rw [X7,X7,ht]
 generalize Kw e.ax e.ay e.bx e.b_y x y=t
 simp only [vW]
 repeat' split
 all_goals omega
theorem jeq (e:Leg) (x y:Int) :sg e*KE (vF true (KR e)) x y=KE (vF true e) x y:=by
 unfold KR sg
 split
 ·rw [show vF true (vW e) =vW (vF true e) from rfl,FK];omega
 ·omega
theorem jfd (e:Leg) (x y:Int) :sg e*KE (ZJ (vF true (KR e))) x y=KE (ZJ (vF true e)) x y:=by
 unfold KR sg
 split
 ·rw [show ZJ (vF true (vW e)) =vW (ZJ (vF true e)) from rfl,FK];omega
 ·omega
def qu (x y mx my:Int) :Int:=if mx<x∧y≤my then 1 else 0
theorem ZA {a b p:Int} (h:p=a*b) : (0<a∧0<b∧0<p)∨(0<a∧b<0∧p<0)∨(a<0∧0<b∧p<0)∨(a<0∧b<0∧0<p)∨(a=0∧p=0)∨(b=0∧p=0) :=by
 subst h
 rcases ji6 a 0 with ha | ha | ha
 ·rcases ji6 b 0 with hb | hb | hb
  ·exact .inr (.inr (.inr (.inl ⟨ha,hb,Int.mul_pos_of_neg_of_neg ha hb⟩)))
  ·subst hb;simp
  ·exact .inr (.inr (.inl ⟨ha,hb,jjq ha hb⟩))
 ·subst ha;simp
 ·rcases ji6 b 0 with hb | hb | hb
  ·exact .inr (.inl ⟨ha,hb,Int.mul_neg_of_pos_of_neg ha hb⟩)
  ·subst hb;simp
  ·exact .inl ⟨ha,hb,ji5 ha hb⟩
theorem jfr {a1 a2 b1 b2 t:Int} (ht:t=a1*b2- a2*b1) (hno:¬(t=0∧(min a1 b1≤0∧0≤max a1 b1)∧min a2 b2≤0∧0≤max a2 b2)) :
  (if(a2≤0∧0<b2)∧0<t then(1:Int) else if(b2≤0∧0<a2)∧t<0 then-1 else 0) - (if(a1≤0∧0<b1)∧0<t then(1:Int) else if(b1≤0∧0<a1)∧t<0 then-1 else 0)
   = (if 0<a1∧a2≤0 then 1 else 0) - (if 0<b1∧b2≤0 then 1 else 0) :=by
 have h1:=ZA (a:=a1) (b:=b2) rfl
 have h2:=ZA (a:=a2) (b:=b1) rfl
 generalize a1*b2=p at*
 generalize a2*b1=q at*
 subst ht
 rcases h1 with h1 | h1 | h1 | h1 | h1 | h1<;>rcases h2 with h2 | h2 | h2 | h2 | h2 | h2<;> (repeat' split) <;>omega
theorem jdO {mx my:Int} (hno:¬(Kw e.ax e.ay e.bx e.b_y mx my=0∧(min e.ax e.bx≤mx∧mx≤max e.ax e.bx)∧min e.ay e.b_y≤my∧my≤max e.ay e.b_y)) :
  KE e mx my- KE (ZJ e) (-my) mx=qu e.ax e.ay mx my- qu e.bx e.b_y mx my:=by
 have hr:Kw (ZJ e).ax (ZJ e).ay (ZJ e).bx (ZJ e).b_y (-my) mx=Kw e.ax e.ay e.bx e.b_y mx my:=by simp only [ZJ,Kw];grind
 have ht:Kw e.ax e.ay e.bx e.b_y mx my= (e.ax- mx) * (e.b_y- my) - (e.ay- my) * (e.bx- mx) :=by simp only [Kw];grind
 have h:=jfr ht (fun k=>hno ⟨k.1,by omega,by omega⟩)
 rw [X7,X7,hr]
 unfold qu
 generalize Kw e.ax e.ay e.bx e.b_y mx my=t at*
 simp only [ZJ]
 have e1: (e.ay≤my∧my<e.b_y)∧0<t↔(e.ay- my≤0∧0<e.b_y- my)∧0<t:=by omega
 have e2: (e.b_y≤my∧my<e.ay)∧t<0↔(e.b_y- my≤0∧0<e.ay- my)∧t<0:=by omega
 have e3: (e.ax≤mx∧mx<e.bx)∧0<t↔(e.ax- mx≤0∧0<e.bx- mx)∧0<t:=by omega
 have e4: (e.bx≤mx∧mx<e.ax)∧t<0↔(e.bx- mx≤0∧0<e.ax- mx)∧t<0:=by omega
 have e5:mx<e.ax∧e.ay≤my↔0<e.ax- mx∧e.ay- my≤0:=by omega
 have e6:mx<e.bx∧e.b_y≤my↔0<e.bx- mx∧e.b_y- my≤0:=by omega
 simp only [e1,e2,e3,e4,e5,e6]
 exact h
theorem xl {d q:Pn} (h:q∈ky a b c d) :kz a b c d=1∨kz a b c d=3:=by
 unfold kz
 have: (ky a b c d).length≠0:=fun e=>by
  have:=jiE e
  rw [this] at h
  cases h
 rw [if_neg this]
 split<;>simp
theorem GD {d q r:Pn} (h:q∈ky a b c d) (h':r∈ky a b c d) (hne:q≠r) :kz a b c d=3:=by
 unfold kz
 match hl:ky a b c d,h,h' with
 | [x],h,h'=>exact absurd ((jin.1 h).trans (jin.1 h').symm) hne
 | x::y::l,_,_=>simp
theorem jeM {d:Pn} (hl:a.2=b.2) (hab:a.1≠b.1) (hcd:c≠d) (hn:¬((a=c∧b=d)∨(a=d∧b=c))) (h:XK a b c d=true) :
  ¬(Kw (2*c.1) (2*c.2) (2*d.1) (2*d.2) (a.1+b.1) (a.2+b.2) =0∧(min (2*c.1) (2*d.1)≤a.1+b.1∧a.1+b.1≤max (2*c.1) (2*d.1))∧min (2*c.2) (2*d.2)≤a.2+b.2∧a.2+b.2≤max (2*c.2) (2*d.2)) :=by
 rintro⟨ht,hx,hy⟩
 have hap:WQ a b c d=false:=by
  rw [WQ]
  simp only [Bool.or_eq_false_iff,decide_eq_false_iff_not]
  omega
 have k3:kz a b c d≠3:=fun k=>by
  unfold XK at h
  rw [hap,k] at h
  simp [hn] at h
 have k2:kz a b c d≠2:=fun k=>by
  unfold XK at h
  rw [hap,k] at h
  simp at h
 have k1:kz a b c d=1→a=c∨a=d∨b=c∨b=d:=fun k=>by
  unfold XK at h
  rw [hap,k] at h
  simp only [jjb,if_false,if_neg (show¬((1:Int) =2) by omega),if_true,ji0,jjS,decide_eq_false_iff_not,ne_eq,Decidable.not_not] at h
  rcases h with((h | h) | h) | h
  ·exact .inl h
  ·exact .inr (.inl h)
  ·exact .inr (.inr (.inl h))
  ·exact .inr (.inr (.inr h))
 obtain ⟨a1,a2⟩ :=a
 obtain ⟨b1,b2⟩ :=b
 obtain ⟨c1,c2⟩ :=c
 obtain ⟨d1,d2⟩ :=d
 simp only [Prod.mk.injEq,ne_eq,not_and] at*
 subst hl
 by_cases hlev:c2=d2
 ·
  subst hlev
  have hyy:c2=a2:=by omega
  subst hyy
  have hcd':c1≠d1:=fun e=>hcd e rfl
  have on1:∀x:Int,(min a1 b1≤x∧x≤max a1 b1)→(min c1 d1≤x∧x≤max c1 d1)→KS (a1,c2) (b1,c2) (c1,c2) (d1,c2) (x,c2) =true:=fun x h1 h2=>by
   rw [KS,jig,Ky,Ky]
   simp only [tn,Kw]
   refine⟨⟨by simp,h1,by omega⟩,by simp,h2,by omega⟩
  have mem1:∀x:Int,(x=a1∨x=b1∨x=c1∨x=d1)→(min a1 b1≤x∧x≤max a1 b1)→(min c1 d1≤x∧x≤max c1 d1)→(x,c2)∈ky (a1,c2) (b1,c2) (c1,c2) (d1,c2) :=fun x h0 h1 h2=>
   kL.2 ⟨by rcases h0 with rfl | rfl | rfl | rfl<;>simp,on1 x h1 h2⟩
  refine k3 (GD (q:= (max (min a1 b1) (min c1 d1),c2)) (r:= (min (max a1 b1) (max c1 d1),c2)) (mem1 _ Om Om Om) (mem1 _ Om Om Om) fun e=> ?_)
  simp only [Prod.mk.injEq] at e
  omega
 ·by_cases hc:c2=a2
  ·
   have e1:Kw (2*c1) (2*c2) (2*d1) (2*d2) (a1+b1) (a2+a2) = -2* ((d2- c2) * (a1+b1- 2*c1)) :=by subst hc;simp only [Kw];grind
   have e2: (d2- c2) * (a1+b1- 2*c1) =0:=by omega
   have e3:a1+b1=2*c1:=by rcases Tk e2 with k | k<;>omega
   subst hc
   have m: (c1,c2)∈ky (a1,c2) (b1,c2) (c1,c2) (d1,d2) :=kL.2 ⟨by simp,by
    rw [KS,jig,Ky,Ky]
    simp only [tn,Kw]
    refine⟨⟨by simp,by omega,by omega⟩,by simp,by omega,by omega⟩⟩
   rcases xl m with k | k
   ·exact absurd (k1 k) Om
   ·exact k3 k
  ·by_cases hd:d2=a2
   ·have e1:Kw (2*c1) (2*c2) (2*d1) (2*d2) (a1+b1) (a2+a2) =2* ((d2- c2) * (2*d1- (a1+b1))) :=by subst hd;simp only [Kw];grind
    have e2: (d2- c2) * (2*d1- (a1+b1)) =0:=by omega
    have e3:a1+b1=2*d1:=by rcases Tk e2 with k | k<;>omega
    subst hd
    have m: (d1,d2)∈ky (a1,d2) (b1,d2) (c1,c2) (d1,d2) :=kL.2 ⟨by simp,by
     rw [KS,jig,Ky,Ky]
     simp only [tn,Kw]
     refine⟨⟨by simp,by omega,by omega⟩,by grind,by omega,by omega⟩⟩
    rcases xl m with k | k
    ·exact absurd (k1 k) Om
    ·exact k3 k
   ·
    by_cases he: (ky (a1,a2) (b1,a2) (c1,c2) (d1,d2)).length=0
    ·have hs:Qc (a1,a2) (b1,a2) (c1,c2) (d1,d2) =true:=by
      rw [K9]
      have s1:=ZA (a:=b1- a1) (b:=c2- a2) (p:=tn (a1,a2) (b1,a2) (c1,c2)) (by simp only [tn,Kw];grind)
      have s2:=ZA (a:=b1- a1) (b:=d2- a2) (p:=tn (a1,a2) (b1,a2) (d1,d2)) (by simp only [tn,Kw];grind)
      have s3:=ZA (a:=d2- c2) (b:=b1- a1) (p:=tn (c1,c2) (d1,d2) (a1,a2) - tn (c1,c2) (d1,d2) (b1,a2)) (by simp only [tn,Kw];grind)
      have s4:2* (tn (c1,c2) (d1,d2) (a1,a2) +tn (c1,c2) (d1,d2) (b1,a2)) =0:=by rw [←ht];simp only [tn,Kw];grind
      clear k1 k2 k3 h hap ht he hn hcd
      generalize tn (a1,a2) (b1,a2) (c1,c2) =T1 at*
      generalize tn (a1,a2) (b1,a2) (d1,d2) =T2 at*
      generalize tn (c1,c2) (d1,d2) (a1,a2) =T3 at*
      generalize tn (c1,c2) (d1,d2) (b1,a2) =T4 at*
      rcases Int.lt_or_gt_of_ne hab with g | g<;>rcases(show c2<a2∧a2<d2∨d2<a2∧a2<c2 by omega) with g' | g'
      ·have t1:T1<0:=by omega
       have t2:0<T2:=by omega
       exact⟨.inl ⟨t1,t2⟩,by omega⟩
      ·have t1:0<T1:=by omega
       have t2:T2<0:=by omega
       exact⟨.inr ⟨t1,t2⟩,by omega⟩
      ·have t1:0<T1:=by omega
       have t2:T2<0:=by omega
       exact⟨.inr ⟨t1,t2⟩,by omega⟩
      ·have t1:T1<0:=by omega
       have t2:0<T2:=by omega
       exact⟨.inl ⟨t1,t2⟩,by omega⟩
     refine k2 ?_
     unfold kz
     rw [if_pos he,if_pos hs]
    ·have:∃q,q∈ky (a1,a2) (b1,a2) (c1,c2) (d1,d2) :=by
      cases hh:ky (a1,a2) (b1,a2) (c1,c2) (d1,d2) with
      | nil=>rw [hh] at he;exact absurd rfl he
      | cons x l=>exact⟨x,by simp⟩
     obtain ⟨q,hq⟩ :=this
     rcases xl hq with k | k
     ·exact absurd (k1 k) Om
     ·exact k3 k
theorem Fl (f:Int→Int→Int) {xs:List (Int×Int)} :∀k,k≤xs.length→sm (fun e:Leg=>f e.ax e.ay- f e.bx e.b_y) (qZ xs k) =f (px xs 0) (py xs 0) - f (px xs (k % xs.length)) (py xs (k % xs.length))
 | 0,_=>by simp [qZ,sm]
 | k+1,h=>by
  have ih:=Fl f (xs:=xs) k Om
  rw [jju (show k<xs.length by omega)] at ih
  rw [Kx]
  split
  ·rename_i he
   rw [ih]
   unfold nx at he
   rw [he.1,he.2]
  ·rw [yF,ih]
   simp only [sm,nx]
   omega
theorem jc1 (f:Int→Int→Int) (xs:List (Int×Int)) :sm (fun e:Leg=>f e.ax e.ay- f e.bx e.b_y) (qf xs) =0:=by
 rw [qf,Fl f _ (jif _),Nat.mod_self]
 omega
theorem CO (f:Int→Int→Int) (rs:List Jp) :∀k,sm (fun e:Leg=>f e.ax e.ay- f e.bx e.b_y) (Qe rs k) =0
 | 0=>rfl
 | k+1=>by
  rw [Qe,yF,CO f rs k,jc1]
  rfl
structure Fine (es:List Leg) :Prop where
 ok:∀e∈es,qU e
 ne:∀e∈es,lA e≠lB e
 close:∀f:Int→Int→Int,sm (fun e:Leg=>f e.ax e.ay- f e.bx e.b_y) es=0
def Rz (es:List Leg) (p:Leg) :Prop:=p.ay=p.b_y→∀e∈es,KR e≠p→¬(Kw (2*e.ax) (2*e.ay) (2*e.bx) (2*e.b_y) (wW p) (Wh p) =0∧(min (2*e.ax) (2*e.bx)≤wW p∧wW p≤max (2*e.ax) (2*e.bx))∧min (2*e.ay) (2*e.b_y)≤Wh p∧Wh p≤max (2*e.ay) (2*e.b_y))
def IY (es:List Leg) (p:Leg) :Int:=sm (fun e=>sg e* (if KR e=p then 0 else BR p (KR e))) es
theorem jdf (hf:Fine es) (hc:Rz es p) (hp:¬ww (lB p) (lA p)) (hne:lA p≠lB p) :
  xL es p=⟨p,Xq es p,IY es p+Xq es p,IY es p⟩ :=by
 have d0:IY es p=sm (fun e=>if KR e=p then 0 else(if p.ay=p.b_y then KE (ZJ (vF true e)) (-(Wh p)) (wW p) else KE (vF true e) (wW p) (Wh p))) es:=by
  refine yG fun e _=> ?_
  split
  ·simp
  ·unfold BR
   split
   ·exact jfd _ _ _
   ·exact jeq _ _ _
 unfold xL
 by_cases hl:p.ay=p.b_y
 ·rw [if_pos hl]
  simp only [if_pos hl] at d0
  have hlt:p.ax<p.bx:=by
   unfold ww lA lB at hp
   unfold lA lB at hne
   simp only [ne_eq,Prod.mk.injEq,not_and] at hp hne
   omega
  have key:Dm es p- IY es p=Xq es p:=by
   rw [d0]
   unfold Dm
   rw [←jdD]
   have e1:sm (fun e:Leg=> (if KR e=p then 0 else KE (vF true e) (wW p) (Wh p)) - (if KR e=p then 0 else KE (ZJ (vF true e)) (-(Wh p)) (wW p))) es
     =sm (fun e:Leg=> (qu (2*e.ax) (2*e.ay) (wW p) (Wh p) - qu (2*e.bx) (2*e.b_y) (wW p) (Wh p)) + (if KR e=p then sg e else 0)) es:=by
    refine yG fun e he=> ?_
    split
    ·rename_i hn
     have hq1:qu (2*p.ax) (2*p.ay) (wW p) (Wh p) =0:=by unfold qu wW;rw [if_neg Om]
     have hq2:qu (2*p.bx) (2*p.b_y) (wW p) (Wh p) =1:=by unfold qu wW Wh;rw [if_pos Om]
     rcases(LZ hp hne).1 hn with rfl | rfl
     ·rw [Ee hp,hq1,hq2];rfl
     ·rw [jdw hp hne]
      simp only [vW]
      rw [hq1,hq2];rfl
    ·rename_i hn
     have:=jdO (e:=vF true e) (hc hl e he hn)
     simp only [vF,if_true] at this⊢
     rw [this]
     omega
   rw [e1,jdA,hf.close fun x y=>qu (2*x) (2*y) (wW p) (Wh p)]
   unfold Xq
   omega
  rw [show Dm es p=IY es p+Xq es p by omega,show IY es p+Xq es p- Xq es p=IY es p by omega]
 ·rw [if_neg hl]
  simp only [if_neg hl] at d0
  have:IY es p=Dm es p:=d0
  rw [this]
theorem IM (hne:lA e≠lB e) :KR (vW e) =KR e:=by
 unfold KR
 rcases UE (lA e) (lB e) with h | h | h
 ·rw [if_pos (show ww (lB (vW e)) (lA (vW e)) from h),if_neg fun k=>Q8 _ (vY h k)]
  rfl
 ·exact absurd h hne
 ·rw [if_pos h,if_neg (show¬ww (lB (vW e)) (lA (vW e)) from fun k=>Q8 _ (vY (show ww (lA e) (lB e) from k) h))]
theorem jeL (e:Leg) :wW (KR e) =e.ax+e.bx∧Wh (KR e) =e.ay+e.b_y∧((KR e).ay= (KR e).b_y↔e.ay=e.b_y) :=by
 unfold KR wW Wh
 split
 ·simp only [vW];omega
 ·exact⟨rfl,rfl,Iff.rfl⟩
theorem jgH (hne:lA e≠lB e) :lA (KR e)≠lB (KR e) :=by
 unfold KR
 split
 ·exact fun h=>hne h.symm
 ·exact hne
theorem D7 (h:e∈es) :∃i,i<es.length∧lg es i=e:=by
 obtain ⟨i,hi,rfl⟩ :=jiU h
 exact⟨i,hi,(Uf hi).symm⟩
theorem jcL {m:List Leg} {l:List Nt} (hl:l=Qj false es []) (hr:EH m) (hm:∀q,q∈m↔∃e∈es,q=KR e) :l.map (·.e) =QU m:=by
 have ha:Ge l:=by rw [hl];exact WN List.Pairwise.nil
 refine Ms (List.pairwise_map.2 ha) (DJ hr) fun q=> ?_
 rw [Zn,hm,jiD,hl]
 rw [show(∃a∈Qj false es [],a.e=q)↔_ from WP]
 simp
end Go.Proofs.YtbahojdbmmjkcaaGreat
