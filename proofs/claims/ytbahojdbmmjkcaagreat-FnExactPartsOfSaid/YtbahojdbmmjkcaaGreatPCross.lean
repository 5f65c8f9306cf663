import Derived.Test.YtbahojdbmmjkcaaGreatPHot
import Derived.Test.YtbahojdbmmjkcaaGreatPPix
import Derived.Test.YtbahojdbmmjkcaaGreatPWind
set_option linter.unusedVariables false
set_option linter.unusedSimpArgs false
namespace Go.Proofs.YtbahojdbmmjkcaaGreat
open Go Go.RowKit
variable {D N d:Int} {a b:Pn} {e p:Leg} {k:Nat} {s:Bool} {α:Type}
theorem jd6 (a b p:Pn) :tn b a p= -tn a b p:=by simp only [tn,Kc];grind
theorem RG (a b p:Pn) :UJ a b p=UJ b a p:=by
 have:tn a b p=0↔tn b a p=0:=by have:=jd6 a b p;omega
 rw [jhc,Kf,Kf,this,Int.min_comm,Int.max_comm,Int.min_comm a.2,Int.max_comm a.2]
theorem KS {c d:Pn} :qU a b c d=true↔((tn a b c<0∧0<tn a b d)∨(0<tn a b c∧tn a b d<0))∧((tn c d a<0∧0<tn c d b)∨(0<tn c d a∧tn c d b<0)) :=by
 simp only [qU,jgy,decide_eq_true_eq,zh]
theorem Lg {n r:Int} (hd:0<d) :zZ n d=r↔(2*r- 1) *d≤2*n∧2*n< (2*r+1) *d:=by
 have h1:=Int.emod_nonneg n (show d≠0 by omega)
 have h2:=Int.emod_lt_of_pos n hd
 have h3:=Int.mul_ediv_add_emod n d
 have key: (2*zZ n d- 1) *d≤2*n∧2*n< (2*zZ n d+1) *d:=by
  unfold zZ
  split
  ·have e: (2* (n/d+1) - 1) *d=2* (d* (n/d)) +d:=by grind
   have e': (2* (n/d+1) +1) *d=2* (d* (n/d)) +3*d:=by grind
   omega
  ·have e: (2* (n/d) - 1) *d=2* (d* (n/d)) - d:=by grind
   have e': (2* (n/d) +1) *d=2* (d* (n/d)) +d:=by grind
   omega
 constructor
 ·intro h;rw [←h];exact key
 ·rintro⟨k1,k2⟩
  have a1: (2*r- 1) *d< (2*zZ n d+1) *d:=by omega
  have a2: (2*zZ n d- 1) *d< (2*r+1) *d:=by omega
  have b1:=jhl a1 (jhQ hd)
  have b2:=jhl a2 (jhQ hd)
  omega
theorem Xf {n n' d':Int} (hd:0<d) (hd':0<d') (h:n*d'=n'*d) :zZ n d=zZ n' d':=by
 obtain ⟨k1,k2⟩ := (Lg (n:=n') hd').1 rfl
 rw [Lg hd]
 generalize zZ n' d'=r at*
 have e1: (2*r- 1) *d'*d≤2*n'*d:=jgz k1 (jhQ hd)
 have e2:2*n'*d< (2*r+1) *d'*d:=jg6 k2 hd
 have e3:2*n'*d=2*n*d':=by grind
 rw [e3] at e1 e2
 have e4: (2*r- 1) *d'*d= (2*r- 1) *d*d':=by grind
 have e5: (2*r+1) *d'*d= (2*r+1) *d*d':=by grind
 rw [e4] at e1
 rw [e5] at e2
 exact⟨jg8 e1 hd',jhl e2 (jhQ hd')⟩
theorem IP {x y u v n n' d':Int} (hd:d≠0) (hd':d'≠0) (h: (x*d+ (y- x) *n) *d'= (u*d'+ (v- u) *n') *d) :On x y n d=On u v n' d':=by
 unfold On
 split<;>split
 ·exact Xf Om Om (by grind)
 ·exact Xf Om Om (by grind)
 ·exact Xf Om Om (by grind)
 ·exact Xf Om Om (by grind)
theorem SA {c d:Pn} (h:Cd a b c d≠0) (h':Cd c d a b≠0) :DF c d a b=DF a b c d:=by
 obtain ⟨a1,a2⟩ :=a;obtain ⟨b1,b2⟩ :=b;obtain ⟨c1,c2⟩ :=c;obtain ⟨d1,d2⟩ :=d
 unfold DF
 refine Prod.ext (IP h' h ?_) (IP h' h ?_)
 ·simp only [XN,ZB,tn,Kc];grind
 ·simp only [XN,ZB,tn,Kc];grind
def Ctn (s:Sp) (N D:Int) :Prop:= (s.ln*D<N*s.ld∨(s.ln*D=N*s.ld∧s.lc=true))∧(N*s.hd<s.hn*D∨(N*s.hd=s.hn*D∧s.hc=true))
theorem jcQ {s:Sp} (hD:0<D) (hl:0<s.ld) (hh:0<s.hd) (h:Ctn s N D) :K5 s=true:=by
 obtain ⟨h1,h2⟩ :=h
 simp only [K5,jhg,jgy,decide_eq_true_eq]
 rcases h1 with h1 |⟨h1,c1⟩
 ·left
  have:=Vq (a:=s.ln) (b:=s.ld) (c:=N) (d:=D) (e:=s.hn) (f:=s.hd) hD hl hh h1 (by rcases h2 with h2 |⟨h2,_⟩ <;>omega)
  omega
 ·rcases h2 with h2 |⟨h2,c2⟩
  ·left
   have:=KZ (a:=s.ln) (b:=s.ld) (c:=N) (d:=D) (e:=s.hn) (f:=s.hd) hD hl hh Om h2
   omega
  ·have:=vM (a:=s.ln) (b:=s.ld) (c:=N) (d:=D) (e:=s.hn) (f:=s.hd) hD hl hh Om Om
   by_cases e:s.ln*s.hd- s.hn*s.ld=0
   ·exact .inr ⟨⟨e,c1⟩,c2⟩
   ·left;omega
theorem IQ {s x:Sp} (h:Ctn s N D) (hx:Ctn x N D) :Ctn (J3 s x) N D:=by
 have hl:Ctn (qN s x) N D:=by unfold qN;split;exact⟨hx.1,h.2⟩;exact h
 unfold J3 QV
 split
 ·exact⟨hl.1,hx.2⟩
 ·exact hl
theorem Nl (h0:0≤N) (h1:N≤D) :Ctn Wi N D:=by
 unfold Ctn Wi
 simp
 omega
def InC (f d lo N D:Int) :Prop:=lo*D≤f*D+d*N∧f*D+d*N< (lo+2) *D
theorem Nk {f lo:Int} (hD:0<D) (h0:0≤N) (h1:N≤D) (h:InC f d lo N D) :Kk f d lo=true∧Ctn (QD f d lo) N D:=by
 obtain ⟨k1,k2⟩ :=h
 unfold Kk QD
 by_cases p:0<d
 ·rw [if_pos p]
  refine⟨by simp;omega,?_,?_⟩
  ·have e: (lo- f) *D=lo*D- f*D:=by grind
   have e':N*d=d*N:=jha _ _
   show(lo- f) *D<N*d∨((lo- f) *D=N*d∧true=true)
   rcases Int.lt_or_eq_of_le (show(lo- f) *D≤N*d by omega) with h | h
   ·exact .inl h
   ·exact .inr ⟨h,rfl⟩
  ·left
   have e: (lo+2- f) *D= (lo+2) *D- f*D:=by grind
   have e':N*d=d*N:=jha _ _
   show N*d< (lo+2- f) *D
   omega
 ·rw [if_neg p]
  by_cases q:d<0
  ·rw [if_pos q]
   refine⟨by simp;omega,?_,?_⟩
   ·left
    have e: (f- lo- 2) *D=f*D- (lo+2) *D:=by grind
    have e':N* -d= -(d*N) :=by grind
    show(f- lo- 2) *D<N* -d
    omega
   ·have e: (f- lo) *D=f*D- lo*D:=by grind
    have e':N* -d= -(d*N) :=by grind
    show N* -d< (f- lo) *D∨(N* -d= (f- lo) *D∧true=true)
    rcases Int.lt_or_eq_of_le (show N* -d≤(f- lo) *D by omega) with h | h
    ·exact .inl h
    ·exact .inr ⟨h,rfl⟩
  ·rw [if_neg q]
   have d0:d=0:=by omega
   subst d0
   have e:f*D+0*N=f*D:=by omega
   rw [e] at k1 k2
   have g1:=jg8 k1 hD
   have g2:=jhl k2 (jhQ hD)
   exact⟨by simp;omega,Nl h0 h1⟩
theorem jeV {f lo f' d' lo':Int} (hD:0<D) (h0:0≤N) (h1:N≤D) (h:InC f d lo N D) (h':InC f' d' lo' N D) :xt f d lo f' d' lo'=true:=by
 obtain ⟨a1,a2⟩ :=Nk hD h0 h1 h
 obtain ⟨b1,b2⟩ :=Nk hD h0 h1 h'
 have p1:=Ku uu (kB f d lo)
 have p2:=Ku p1 (kB f' d' lo')
 rw [xt,a1,b1,jcQ hD p2.1 p2.2 (IQ (IQ (Nl h0 h1) a2) b2)]
 rfl
def ipB (a b p:Pn) :Bool:=wF a.1 a.2&&wF b.1 b.2&&wF p.1 p.2&&xt (2*a.1) (2* (b.1- a.1)) (2*p.1- 1) (2*a.2) (2* (b.2- a.2)) (2*p.2- 1)
theorem jeg {p:Pn} (ha:bd2 a) (hb:bd2 b) (hp:bd2 p) (hD:0<D) (h0:0≤N) (h1:N≤D) (hx: (2*p.1- 1) *D≤2* (a.1*D+ (b.1- a.1) *N)∧2* (a.1*D+ (b.1- a.1) *N) < (2*p.1+1) *D) (hy: (2*p.2- 1) *D≤2* (a.2*D+ (b.2- a.2) *N)∧2* (a.2*D+ (b.2- a.2) *N) < (2*p.2+1) *D) :ipB a b p=true:=by
 rw [ipB,yu ha,yu hb,yu hp,jg2,jg2,jg2]
 refine jeV hD h0 h1 ?_ ?_
 ·have e:2*a.1*D+2* (b.1- a.1) *N=2* (a.1*D+ (b.1- a.1) *N) :=by grind
  have e2: (2*p.1- 1+2) *D= (2*p.1+1) *D:=by grind
  unfold InC
  rw [e,e2]
  exact hx
 ·have e:2*a.2*D+2* (b.2- a.2) *N=2* (a.2*D+ (b.2- a.2) *N) :=by grind
  have e2: (2*p.2- 1+2) *D= (2*p.2+1) *D:=by grind
  unfold InC
  rw [e,e2]
  exact hy
theorem NK {x y B r:Int} (hx: -B≤x∧x≤B) (hy: -B≤y∧y≤B) (hD:0<D) (h0:0≤N) (h1:N≤D) (h: (2*r- 1) *D≤2* (x*D+ (y- x) *N)∧2* (x*D+ (y- x) *N) < (2*r+1) *D) : -B≤r∧r≤B:=by
 have e:x*D+ (y- x) *N=x* (D- N) +y*N:=by grind
 rw [e] at h
 have a1:x* (D- N)≤B* (D- N) :=jgz hx.2 Om
 have a2:y*N≤B*N:=jgz hy.2 h0
 have a3: -B* (D- N)≤x* (D- N) :=jgz hx.1 Om
 have a4: -B*N≤y*N:=jgz hy.1 h0
 have e1:B* (D- N) +B*N=B*D:=by grind
 have e2: -B* (D- N) + -B*N= -B*D:=by grind
 have k1: (2*r- 1) *D≤(2*B) *D:=by
  have:2*B*D=2* (B*D) :=by grind
  omega
 have k2: (2* -B) *D< (2*r+1) *D:=by
  have:2* -B*D=2* (-B*D) :=by grind
  omega
 have m1:=jg8 k1 hD
 have m2:=jhl k2 (jhQ hD)
 omega
theorem SD {x y n:Int} (hd:d≠0) :∃N D:Int,0<D∧((d<0∧N= -n∧D= -d)∨(0<d∧N=n∧D=d))∧(2*On x y n d- 1) *D≤2* (x*D+ (y- x) *N)∧2* (x*D+ (y- x) *N) < (2*On x y n d+1) *D:=by
 unfold On
 split
 ·exact⟨-n,-d,by omega, .inl ⟨by assumption,rfl,rfl⟩,(Lg Om).1 rfl⟩
 ·exact⟨n,d,by omega, .inr ⟨by omega,rfl,rfl⟩,(Lg Om).1 rfl⟩
theorem Ce {c d:Pn} (ha:bd2 a) (hb:bd2 b) (hs:qU a b c d=true) :bd2 (DF a b c d)∧ipB a b (DF a b c d) =true:=by
 have hD:=u7 hs
 have hs2:= (KS.1 hs).2
 rw [←ZB a c d] at hs2
 have e:=XN a b c d
 rw [←ZB a c d] at e
 obtain ⟨N,D,h0,h1,hx⟩ :=SD (x:=a.1) (y:=b.1) (n:=crN a c d) hD
 obtain ⟨N',D',_,h1',hy⟩ :=SD (x:=a.2) (y:=b.2) (n:=crN a c d) hD
 obtain rfl:N'=N:=by omega
 obtain rfl:D'=D:=by omega
 have n0:0≤N'∧N'≤D':=by omega
 have m1:=NK ha.1 hb.1 h0 n0.1 n0.2 hx
 have m2:=NK ha.2 hb.2 h0 n0.1 n0.2 hy
 have hp:bd2 (DF a b c d) :=⟨m1,m2⟩
 exact⟨hp,jeg ha hb hp h0 n0.1 n0.2 hx hy⟩
theorem jfi {p:Pn} (ha:bd2 a) (hb:bd2 b) (h:UJ a b p=true) :bd2 p∧ipB a b p=true:=by
 obtain ⟨ht,hx,hy⟩ :=Kf.1 h
 have hp:bd2 p:=by
  obtain ⟨⟨a1,a2⟩,a3,a4⟩ :=ha
  obtain ⟨⟨b1,b2⟩,b3,b4⟩ :=hb
  refine⟨⟨?_,?_⟩,?_,?_⟩ <;>omega
 have ht': (b.1- a.1) * (p.2- a.2) = (b.2- a.2) * (p.1- a.1) :=by simp only [tn,Kc] at ht;omega
 have key:∀N D:Int,0<D→0≤N→N≤D→a.1*D+ (b.1- a.1) *N=p.1*D→a.2*D+ (b.2- a.2) *N=p.2*D→ipB a b p=true:=by
  intro N D h0 h1 h2 e1 e2
  refine jeg ha hb hp h0 h1 h2 ?_ ?_
  ·rw [e1]
   have g1: (2*p.1- 1) *D=2* (p.1*D) - D:=by grind
   have g2: (2*p.1+1) *D=2* (p.1*D) +D:=by grind
   omega
  ·rw [e2]
   have g1: (2*p.2- 1) *D=2* (p.2*D) - D:=by grind
   have g2: (2*p.2+1) *D=2* (p.2*D) +D:=by grind
   omega
 refine⟨hp,?_⟩
 rcases jhp a.1 b.1 with h1 | h1 | h1
 ·exact key (p.1- a.1) (b.1- a.1) Om Om Om (by grind) (by grind)
 ·rcases jhp a.2 b.2 with h2 | h2 | h2
  ·exact key (p.2- a.2) (b.2- a.2) Om Om Om (by grind) (by grind)
  ·have e1:p.1=a.1:=by omega
   have e2:p.2=a.2:=by omega
   exact key 0 1 Om Om Om Om Om
  ·exact key (a.2- p.2) (a.2- b.2) Om Om Om (by grind) (by grind)
 ·exact key (a.1- p.1) (a.1- b.1) Om Om Om (by grind) (by grind)
def Zj (e f:Leg) :Prop:=wc (lA e) (lA f)∨(lA e=lA f∧wc (lB e) (lB f))
instance (e f:Leg) :Decidable (Zj e f) :=by unfold Zj;exact inferInstance
theorem xB {f:Leg} (h1:lA e=lA f) (h2:lB e=lB f) :e=f:=by
 rcases e with⟨a1,a2,a3,a4⟩
 rcases f with⟨b1,b2,b3,b4⟩
 simp only [lA,lB,Prod.mk.injEq] at h1 h2
 rw [h1.1,h1.2,h2.1,h2.2]
theorem U4 {f g:Leg} (h:Zj e f) (h':Zj f g) :Zj e g:=by
 rcases h with h |⟨h1,h2⟩
 ·rcases h' with h' |⟨h3,_⟩
  ·exact .inl (vF h h')
  ·exact .inl (h3▸h)
 ·rcases h' with h' |⟨h3,h4⟩
  ·exact .inl (h1▸h')
  ·exact .inr ⟨h1.trans h3,vF h2 h4⟩
theorem KR (e:Leg) :¬Zj e e:=by
 rintro(h |⟨_,h⟩) <;>exact Q7 _ h
theorem H1 (e f:Leg) :Zj e f∨e=f∨Zj f e:=by
 rcases Ui (lA e) (lA f) with h | h | h
 ·exact .inl (.inl h)
 ·rcases Ui (lB e) (lB f) with h' | h' | h'
  ·exact .inl (.inr ⟨h,h'⟩)
  ·exact .inr (.inl (xB h h'))
  ·exact .inr (.inr (.inr ⟨h.symm,h'⟩))
 ·exact .inr (.inr (.inl h))
theorem Ti {f g:Leg} (h:¬Zj e f) (h':¬Zj f g) :¬Zj e g:=fun k=>by
 rcases H1 f g with c | c | c
 ·exact h' c
 ·exact h (c▸k)
 ·exact h (U4 k c)
def jez (l:List Leg) :Prop:=l.Pairwise Zj
theorem LB:∀ {l m:List Leg},jez l→jez m→(∀p,p∈l↔p∈m)→l=m
 | [],[],_,_,_=>rfl
 | [],q::m,_,_,h=>absurd ((h q).2 (by simp)) (by simp)
 | p::l,[],_,_,h=>absurd ((h p).1 (by simp)) (by simp)
 | p::l,q::m,hl,hm,h=>by
  have kl:=jg4.1 hl
  have km:=jg4.1 hm
  have e:p=q:=by
   rcases jgK.1 ((h p).1 (by simp)) with e | h1
   ·exact e
   ·rcases jgK.1 ((h q).2 (by simp)) with e | h2
    ·exact e.symm
    ·exact absurd (U4 (kl.1 q h2) (km.1 p h1)) (KR p)
  subst e
  congr 1
  refine LB kl.2 km.2 fun r=> ?_
  constructor
  ·intro hr
   rcases jgK.1 ((h r).1 (jgP _ hr)) with e | h1
   ·exact absurd (e▸kl.1 r hr) (KR _)
   ·exact h1
  ·intro hr
   rcases jgK.1 ((h r).2 (jgP _ hr)) with e | h1
   ·exact absurd (e▸km.1 r hr) (KR _)
   ·exact h1
def QB:List Leg→List Leg
 | [] => []
 | [p] => [p]
 | p::q::l=>if p=q then QB (q::l) else p::QB (q::l)
theorem zw:∀(l:List Leg) (r:Leg),r∈QB l↔r∈l
 | [],_=>Iff.rfl
 | [_],_=>Iff.rfl
 | p::q::l,r=>by
  unfold QB
  split
  ·rename_i e
   rw [zw (q::l) r,e]
   simp
  ·rw [jgK,zw (q::l) r]
   simp
def PW (l:List Leg) :Prop:=l.Pairwise fun p q=>¬Zj q p
theorem Bh:∀ {l:List Leg},PW l→jez (QB l)
 | [],_=>List.Pairwise.nil
 | [p],_=>jhL _ _
 | p::q::l,h=>by
  have h1:=jg4.1 h
  have ih:=Bh (l:=q::l) h1.2
  unfold QB
  split
  ·exact ih
  ·rename_i hne
   refine jg4.2 ⟨fun r hr=> ?_,ih⟩
   rw [zw] at hr
   have hpq:Zj p q:=by
    rcases H1 p q with h2 | h2 | h2
    ·exact h2
    ·exact absurd h2 hne
    ·exact absurd h2 (h1.1 q (by simp))
   rcases jgK.1 hr with e | hr
   ·rw [e];exact hpq
   ·have h3:= (jg4.1 h1.2).1 r hr
    rcases H1 q r with c | c | c
    ·exact U4 hpq c
    ·exact c▸hpq
    ·exact absurd c h3
def vD (e:Leg) :Leg:=⟨e.bx,e.b_y,e.ax,e.ay⟩
def Ky (e:Leg) :Leg:=if wc (lB e) (lA e) then vD e else e
def sg (e:Leg) :Int:=if wc (lB e) (lA e) then-1 else 1
theorem B4 (e:Leg) :vD (vD e) =e:=rfl
theorem jbi (h:qr e) :qr (Ky e) :=by
 unfold Ky
 split
 ·exact⟨h.2.2.1,h.2.2.2,h.1,h.2.1⟩
 ·exact h
theorem jdr (e:Leg) :¬wc (lB (Ky e)) (lA (Ky e)) :=by
 unfold Ky
 split
 ·rename_i h
  intro k
  exact Q7 _ (vF h k)
 ·assumption
theorem H6 (hp:¬wc (lB p) (lA p)) (hne:lA p≠lB p) :Ky e=p↔e=p∨e=vD p:=by
 unfold Ky
 constructor
 ·split
  ·intro h
   exact .inr (by rw [←h];rfl)
  ·exact .inl
 ·rintro(rfl | rfl)
  ·rw [if_neg hp]
  ·have:wc (lB (vD p)) (lA (vD p)) :=by
    rcases Ui (lA p) (lB p) with h | h | h
    ·exact h
    ·exact absurd h hne
    ·exact absurd h hp
   rw [if_pos this,B4]
theorem Pv (hp:¬wc (lB p) (lA p)) :sg p=1:=if_neg hp
theorem jbX (hp:¬wc (lB p) (lA p)) (hne:lA p≠lB p) :sg (vD p) = -1:=by
 have:wc (lB (vD p)) (lA (vD p)) :=by
  rcases Ui (lA p) (lB p) with h | h | h
  ·exact h
  ·exact absurd h hne
  ·exact absurd h hp
 exact if_pos this
def sm {α:Type} (f:α→Int) :List α→Int
 | [] =>0
 | x::l=>f x+sm f l
theorem yf {α:Type} (f:α→Int) :∀a b:List α,sm f (a++b) =sm f a+sm f b
 | [],b=>by simp [sm]
 | x::a,b=>by simp only [jg0,sm,yf f a b];omega
theorem yg {α:Type} {f g:α→Int} :∀ {l:List α},(∀x∈l,f x=g x)→sm f l=sm g l
 | [],_=>rfl
 | x::l,h=>by simp only [sm];rw [h x (by simp),yg fun y hy=>h y (jgP _ hy)]
theorem jb0 {α:Type} (f g:α→Int) :∀l:List α,sm (fun x=>f x+g x) l=sm f l+sm g l
 | [] =>rfl
 | x::l=>by simp only [sm,jb0 f g l];omega
theorem jb3 {α:Type} (f g:α→Int) :∀l:List α,sm (fun x=>f x- g x) l=sm f l- sm g l
 | [] =>rfl
 | x::l=>by simp only [sm,jb3 f g l];omega
theorem jeu {α:Type} {f:α→Int} :∀ {l:List α},(∀x∈l,-1≤f x∧f x≤1)→-(l.length:Int)≤sm f l∧sm f l≤l.length
 | [],_=>by simp [sm]
 | x::l,h=>by
  have h1:=h x (by simp)
  have h2:=jeu (l:=l) fun y hy=>h y (jgP _ hy)
  simp only [sm,jgD]
  omega
structure Nt where
 e:Leg
 one:Int
 two:Int
 l1:Int
 l2:Int
def qi (x:Nt) :List Value:=jU x.e++ [.int .i64 x.one, .int .i64 x.two, .int .i64 x.l1, .int .i64 x.l2]
def Y1 (e:Leg) :Nt:=⟨e,0,0,0,0⟩
def nt (l:List Nt) (k:Nat) :Nt:=l.getD k (Y1 ⟨0,0,0,0⟩)
theorem YB {l:List Nt} (h:k<l.length) :l[k] =nt l k:=by simp [nt,List.getD,List.getElem?_eq_getElem h]
def VM (s:Bool) (n:Int) (x:Nt) :Nt:=if s=true then {x with two:=x.two+n} else {x with one:=x.one+n}
theorem xh (s:Bool) (n:Int) (x:Nt) : (VM s n x).e=x.e:=by unfold VM;split<;>rfl
def wG (s:Bool) (e:Leg) :List Nt→List Nt
 | [] => [VM s (sg e) (Y1 (Ky e))]
 | x::l=>if Zj x.e (Ky e) then x::wG s e l else if x.e=Ky e then VM s (sg e) x::l else VM s (sg e) (Y1 (Ky e)) ::x::l
def XS (l:List Nt) (k:Nat) (e:Leg) :List Nt:=l.take k++Y1 e::l.drop k
theorem Iq {s:Bool} {e:Leg} :∀ {l:List Nt} {k:Nat},k≤l.length→(∀j,j<k→Zj (nt l j).e (Ky e))→(k<l.length→¬Zj (nt l k).e (Ky e)∧(nt l k).e≠Ky e)→
  wG s e l= (XS l k (Ky e)).set k (VM s (sg e) (nt (XS l k (Ky e)) k))
 | [],k,hk,_,_=>by
  have:k=0:=by simpa using hk
  subst this
  rfl
 | x::l,0,_,_,h=>by
  have:¬Zj x.e (Ky e)∧x.e≠Ky e:=h (by simp)
  rw [wG,if_neg this.1,if_neg this.2]
  rfl
 | x::l,k+1,hk,h1,h2=>by
  have h0:Zj x.e (Ky e) :=h1 0 Om
  rw [wG,if_pos h0,Iq (l:=l) (k:=k) (by simpa using hk) (fun j hj=>h1 (j+1) Om) (fun hk'=>h2 (by simpa using hk'))]
  rfl
theorem Ir {s:Bool} {e:Leg} :∀ {l:List Nt} {k:Nat},k<l.length→(∀j,j<k→Zj (nt l j).e (Ky e))→(nt l k).e=Ky e→
  wG s e l=l.set k (VM s (sg e) (nt l k))
 | [],k,hk,_,_=>absurd hk (by simp)
 | x::l,0,_,_,h=>by
  have h':x.e=Ky e:=h
  rw [wG,if_neg (by rw [h'];exact KR _),if_pos h']
  rfl
 | x::l,k+1,hk,h1,h2=>by
  have h0:Zj x.e (Ky e) :=h1 0 Om
  rw [wG,if_pos h0,Ir (l:=l) (k:=k) (by simpa using hk) (fun j hj=>h1 (j+1) Om) h2]
  rfl
theorem Lu {s:Bool} {e q:Leg} :∀ {l:List Nt},(∃x∈wG s e l,x.e=q)↔(∃x∈l,x.e=q)∨q=Ky e
 | [] =>by simp [wG,xh,Y1,eq_comm]
 | x::l=>by
  have ih:=Lu (s:=s) (e:=e) (q:=q) (l:=l)
  unfold wG
  split
  ·simp only [jgK,exists_eq_or_imp,ih,or_assoc]
  ·split
   ·rename_i h
    simp only [jgK,exists_eq_or_imp,xh]
    constructor
    ·exact .inl
    ·rintro(h1 | h1)
     ·exact h1
     ·exact .inl (h1▸h)
   ·simp only [jgK,exists_eq_or_imp,xh]
    constructor
    ·rintro(h1 | h1)
     ·exact .inr h1.symm
     ·exact .inl h1
    ·rintro(h1 | h1)
     ·exact .inr h1
     ·exact .inl h1.symm
def XE (l:List Nt) :Prop:=l.Pairwise fun x y=>Zj x.e y.e
theorem Io {s:Bool} {e:Leg} :∀ {l:List Nt},XE l→XE (wG s e l)
 | [],_=>jhL _ _
 | x::l,h=>by
  have h1:=jg4.1 h
  unfold wG
  split
  ·rename_i hx
   refine jg4.2 ⟨fun y hy=> ?_,Io h1.2⟩
   rcases(Lu (q:=y.e)).1 ⟨y,hy,rfl⟩ with⟨z,hz,e1⟩ | e1
   ·rw [←e1];exact h1.1 z hz
   ·rw [e1];exact hx
  ·rename_i hx
   split
   ·refine jg4.2 ⟨fun y hy=> ?_,h1.2⟩
    rw [xh];exact h1.1 y hy
   ·rename_i hne
    have hlt:Zj (Ky e) x.e:=by
     rcases H1 (Ky e) x.e with c | c | c
     ·exact c
     ·exact absurd c.symm hne
     ·exact absurd c hx
    refine jg4.2 ⟨fun y hy=> ?_,h⟩
    rw [xh]
    rcases jgK.1 hy with c | hy
    ·rw [c];exact hlt
    ·exact U4 hlt (h1.1 y hy)
def vU (s:Bool) (x:Nt) :Int:=if s=true then x.two else x.one
def wS (s:Bool) (F:Leg→Int) (l:List Nt) :Int:=sm (fun x=>vU s x*F x.e) l
theorem Ew {s t:Bool} {e:Leg} (F:Leg→Int) :∀(l:List Nt),wS t F (wG s e l) =wS t F l+ (if s=t then sg e*F (Ky e) else 0)
 | [] =>by
  cases s<;>cases t<;>simp [wS,wG,sm,vU,VM,Y1]
 | x::l=>by
  have ih:=Ew (s:=s) (t:=t) (e:=e) F l
  unfold wS at ih⊢
  unfold wG
  split
  ·simp only [sm,ih];omega
  ·split
   ·rename_i h
    cases s<;>cases t<;>simp [sm,vU,VM,h] <;>grind
   ·cases s<;>cases t<;>simp [sm,vU,VM,Y1] <;>grind
def q8 (s:Bool) (es:List Leg) (l:List Nt) :List Nt:=es.foldl (fun l e=>wG s e l) l
theorem Wp {s:Bool} :∀ {es:List Leg} {l:List Nt},XE l→XE (q8 s es l)
 | [],_,h=>h
 | e::es,l,h=>Wp (es:=es) (Io (e:=e) h)
theorem Ws {s:Bool} {q:Leg} :∀ {es:List Leg} {l:List Nt},(∃x∈q8 s es l,x.e=q)↔(∃x∈l,x.e=q)∨∃e∈es,q=Ky e
 | [],l=>by simp [q8]
 | e::es,l=>by
  have:=Ws (s:=s) (q:=q) (es:=es) (l:=wG s e l)
  unfold q8 at this⊢
  rw [jhs,this,Lu]
  simp only [jgK,exists_eq_or_imp,or_assoc]
theorem Yz {s t:Bool} (F:Leg→Int) :∀(es:List Leg) (l:List Nt),wS t F (q8 s es l) =wS t F l+ (if s=t then sm (fun e=>sg e*F (Ky e)) es else 0)
 | [],l=>by simp [q8,sm]
 | e::es,l=>by
  have:=Yz (s:=s) (t:=t) F es (wG s e l)
  unfold q8 at this⊢
  rw [jhs,this,Ew]
  split<;> (try simp only [sm]) <;>omega
theorem Ip {s:Bool} {e:Leg} :∀(l:List Nt),(wG s e l).length≤l.length+1
 | [] =>by simp [wG]
 | x::l=>by
  have:=Ip (s:=s) (e:=e) l
  unfold wG
  split
  ·simp only [jgD];omega
  ·split<;>simp only [jgD] <;>omega
def zS (x:Int) :Int:=if x<0 then-x else x
theorem DT (x:Int) :0≤zS x:=by unfold zS;split<;>omega
theorem Ns (x:Int) : -zS x≤x∧x≤zS x:=by unfold zS;split<;>omega
def aS (s:Bool) (l:List Nt) :Int:=sm (fun x=>zS (vU s x)) l
theorem R8 (e:Leg) :sg e=1∨sg e= -1:=by unfold sg;split<;>simp
theorem Ev {s t:Bool} {e:Leg} :∀(l:List Nt),aS t (wG s e l)≤aS t l+ (if s=t then 1 else 0)
 | [] =>by
  have:=R8 e
  cases s<;>cases t<;>simp [aS,wG,sm,vU,VM,Y1,zS] <;>omega
 | x::l=>by
  have ih:=Ev (s:=s) (t:=t) (e:=e) l
  have:=R8 e
  unfold aS at ih⊢
  unfold wG
  split
  ·simp only [sm];omega
  ·split
   ·cases s<;>cases t<;>simp [sm,vU,VM,zS] <;> (repeat' split) <;>omega
   ·cases s<;>cases t<;>simp [sm,vU,VM,Y1,zS] <;> (repeat' split) <;>omega
theorem Yy {s t:Bool} :∀(es:List Leg) (l:List Nt),aS t (q8 s es l)≤aS t l+ (if s=t then(es.length:Int) else 0)
 | [],l=>by simp [q8]
 | e::es,l=>by
  have h1:=Yy (s:=s) (t:=t) es (wG s e l)
  have h2:=Ev (s:=s) (t:=t) (e:=e) l
  unfold q8 at h1⊢
  rw [jhs]
  split at h1<;>split at h2<;>simp only [jgD] <;> (try split) <;>simp_all<;>omega
structure Ne where
 e:Leg
 net:Int
 left:Int
 right:Int
def wC (p:Leg) :Int:=p.ax+p.bx
def wN (p:Leg) :Int:=p.ay+p.b_y
def xK (es:List Leg) (p:Leg) :Int:=sm (fun e=>if Ky e=p then sg e else 0) es
def OU (es:List Leg) (p:Leg) :Int:=sm (fun e=>if Ky e=p then 0 else kE (Qe true e) (wC p) (wN p)) es
def Z8 (es:List Leg) (p:Leg) :Ne:=if p.ay=p.b_y then⟨p,xK es p,OU es p,OU es p- xK es p⟩ else⟨p,xK es p,OU es p+xK es p,OU es p⟩
def z6 (e:Leg) :Leg:=⟨-e.ay,e.ax,-e.b_y,e.bx⟩
def Oy (p q:Leg) :Int:=if p.ay=p.b_y then kE (z6 (Qe true q)) (-(wN p)) (wC p) else kE (Qe true q) (wC p) (wN p)
def Qo (s:Bool) (l:List Nt) (k:Nat) :Nat→Int
 | 0=>0
 | i+1=>Qo s l k i+ (if i=k then 0 else vU s (nt l i) *Oy (nt l k).e (nt l i).e)
theorem jco (l:Leg) (x y:Int) : -1≤kE l x y∧kE l x y≤1:=by unfold kE;split<;> (try split) <;>omega
theorem jcE (p q:Leg) : -1≤Oy p q∧Oy p q≤1:=by unfold Oy;split<;>exact jco _ _ _
theorem jba {c g:Int} (h: -1≤g∧g≤1) : -zS c≤c*g∧c*g≤zS c:=by
 have h1:=Ns c
 have:g= -1∨g=0∨g=1:=by omega
 rcases this with rfl | rfl | rfl<;>simp<;>omega
theorem Li (f:α→Int) {l:List α} (h:k<l.length) :sm f (l.take (k+1)) =sm f (l.take k) +f l[k] :=by
 rw [jgE h,yf]
 simp [sm]
theorem jb2 {α:Type} {f:α→Int} (h:∀x,0≤f x) :∀l:List α,0≤sm f l
 | [] =>Int.le_refl _
 | x::l=>by
  have:=h x
  have:=jb2 h l
  simp only [sm]
  omega
theorem Ty {f:α→Int} (h:∀x,0≤f x) (l:List α) (k:Nat) :sm f (l.take k)≤sm f l:=by
 have e:sm f l=sm f (l.take k) +sm f (l.drop k) :=by rw [←yf,jgI]
 have:=jb2 h (l.drop k)
 omega
theorem Bb {s:Bool} {l:List Nt} {k:Nat} :∀i,i≤l.length→-sm (fun x=>zS (vU s x)) (l.take i)≤Qo s l k i∧Qo s l k i≤sm (fun x=>zS (vU s x)) (l.take i)
 | 0,_=>by simp [Qo,sm]
 | i+1,h=>by
  have h1:=Bb (s:=s) (l:=l) (k:=k) i Om
  have h2:=jba (c:=vU s (nt l i)) (jcE (nt l k).e (nt l i).e)
  have h3:=DT (vU s (nt l i))
  rw [Li _ Om,YB Om,Qo]
  split<;>omega
theorem UP {l:List Nt} {i:Nat} (h:i≤l.length) : -aS s l≤Qo s l k i∧Qo s l k i≤aS s l:=by
 have h1:=Bb (s:=s) (l:=l) (k:=k) i h
 have h2:=Ty (f:=fun x=>zS (vU s x)) (fun x=>DT _) l i
 unfold aS
 omega
theorem XY {l:List Nt} (h:k<l.length) :nt l k∈l:=by rw [←YB h];exact jgH h
theorem Ez {l:List Nt} (h:XE l) {i:Nat} (hi:i<l.length) (hk:k<l.length) (he: (nt l i).e= (nt l k).e) :i=k:=by
 rcases Nat.lt_trichotomy i k with c | c | c
 ·have:=jho.1 h i k hi hk c
  rw [YB hi,YB hk,he] at this
  exact absurd this (KR _)
 ·exact c
 ·have:=jho.1 h k i hk hi c
  rw [YB hi,YB hk,he] at this
  exact absurd this (KR _)
theorem Iv {s:Bool} {l:List Nt} {k:Nat} (ha:XE l) (hk:k<l.length) :∀i,i≤l.length→Qo s l k i=sm (fun x=>vU s x* (if x.e= (nt l k).e then 0 else Oy (nt l k).e x.e)) (l.take i)
 | 0,_=>rfl
 | i+1,h=>by
  rw [Li _ Om,YB Om,Qo,Iv ha hk i Om]
  congr 1
  by_cases e:i=k
  ·subst e
   simp
  ·rw [if_neg e,if_neg fun he=>e (Ez ha Om hk he)]
theorem P5 {l:List Nt} (ha:XE l) (hk:k<l.length) :Qo s l k l.length=wS s (fun q=>if q= (nt l k).e then 0 else Oy (nt l k).e q) l:=by
 rw [Iv ha hk _ (jgx _),jhf]
 rfl
theorem PM {s:Bool} {p:Leg} :∀ {l:List Nt},(∀x∈l,x.e≠p)→wS s (fun q=>if q=p then 1 else 0) l=0
 | [],_=>rfl
 | x::l,h=>by
  have:=PM (s:=s) (l:=l) fun y hy=>h y (jgP _ hy)
  unfold wS at*
  simp only [sm,this]
  rw [if_neg (h x (by simp))]
  simp
theorem jex {s:Bool} :∀ {l:List Nt} {x:Nt},XE l→x∈l→wS s (fun q=>if q=x.e then 1 else 0) l=vU s x
 | y::l,x,h,hx=>by
  have h1:=jg4.1 h
  rcases jgK.1 hx with e | hx
  ·subst e
   have:=PM (s:=s) (p:=x.e) (l:=l) fun z hz e=>KR _ (e▸h1.1 z hz)
   unfold wS at*
   simp only [sm,this,if_true]
   omega
  ·have:=jex (s:=s) h1.2 hx
   have hne:y.e≠x.e:=fun e=>KR _ (e▸h1.1 x hx)
   unfold wS at*
   simp only [sm,this,if_neg hne]
   omega
theorem Xw (l:Leg) (x y:Int) :kE l x y=if(l.ay≤y∧y<l.b_y)∧0<Kc l.ax l.ay l.bx l.b_y x y then 1 else if(l.b_y≤y∧y<l.ay)∧Kc l.ax l.ay l.bx l.b_y x y<0 then-1 else 0:=by
 unfold kE Dq Wo
 simp only [jgy,decide_eq_true_eq]
theorem Dp (e:Leg) (x y:Int) :kE (vD e) x y= -kE e x y:=by
 have ht:Kc (vD e).ax (vD e).ay (vD e).bx (vD e).b_y x y= -Kc e.ax e.ay e.bx e.b_y x y:=by simp only [vD,Kc];grind
 rw [Xw,Xw,ht]
 generalize Kc e.ax e.ay e.bx e.b_y x y=t
 simp only [vD]
 repeat' split
 all_goals omega
theorem jcV (e:Leg) (x y:Int) :sg e*kE (Qe true (Ky e)) x y=kE (Qe true e) x y:=by
 unfold Ky sg
 split
 ·rw [show Qe true (vD e) =vD (Qe true e) from rfl,Dp];omega
 ·omega
theorem jdN (e:Leg) (x y:Int) :sg e*kE (z6 (Qe true (Ky e))) x y=kE (z6 (Qe true e)) x y:=by
 unfold Ky sg
 split
 ·rw [show z6 (Qe true (vD e)) =vD (z6 (Qe true e)) from rfl,Dp];omega
 ·omega
def qu (x y mx my:Int) :Int:=if mx<x∧y≤my then 1 else 0
theorem zL {a b p:Int} (h:p=a*b) : (0<a∧0<b∧0<p)∨(0<a∧b<0∧p<0)∨(a<0∧0<b∧p<0)∨(a<0∧b<0∧0<p)∨(a=0∧p=0)∨(b=0∧p=0) :=by
 subst h
 rcases jhp a 0 with ha | ha | ha
 ·rcases jhp b 0 with hb | hb | hb
  ·exact .inr (.inr (.inr (.inl ⟨ha,hb,Int.mul_pos_of_neg_of_neg ha hb⟩)))
  ·subst hb;simp
  ·exact .inr (.inr (.inl ⟨ha,hb,jhI ha hb⟩))
 ·subst ha;simp
 ·rcases jhp b 0 with hb | hb | hb
  ·exact .inr (.inl ⟨ha,hb,Int.mul_neg_of_pos_of_neg ha hb⟩)
  ·subst hb;simp
  ·exact .inl ⟨ha,hb,jhm ha hb⟩
theorem jd3 {a1 a2 b1 b2 t:Int} (ht:t=a1*b2- a2*b1) (hno:¬(t=0∧(min a1 b1≤0∧0≤max a1 b1)∧min a2 b2≤0∧0≤max a2 b2)) :
  (if(a2≤0∧0<b2)∧0<t then(1:Int) else if(b2≤0∧0<a2)∧t<0 then-1 else 0) - (if(a1≤0∧0<b1)∧0<t then(1:Int) else if(b1≤0∧0<a1)∧t<0 then-1 else 0)
   = (if 0<a1∧a2≤0 then 1 else 0) - (if 0<b1∧b2≤0 then 1 else 0) :=by
 have h1:=zL (a:=a1) (b:=b2) rfl
 have h2:=zL (a:=a2) (b:=b1) rfl
 generalize a1*b2=p at*
 generalize a2*b1=q at*
 subst ht
 rcases h1 with h1 | h1 | h1 | h1 | h1 | h1<;>rcases h2 with h2 | h2 | h2 | h2 | h2 | h2<;> (repeat' split) <;>omega
theorem jcf {mx my:Int} (hno:¬(Kc e.ax e.ay e.bx e.b_y mx my=0∧(min e.ax e.bx≤mx∧mx≤max e.ax e.bx)∧min e.ay e.b_y≤my∧my≤max e.ay e.b_y)) :
  kE e mx my- kE (z6 e) (-my) mx=qu e.ax e.ay mx my- qu e.bx e.b_y mx my:=by
 have hr:Kc (z6 e).ax (z6 e).ay (z6 e).bx (z6 e).b_y (-my) mx=Kc e.ax e.ay e.bx e.b_y mx my:=by simp only [z6,Kc];grind
 have ht:Kc e.ax e.ay e.bx e.b_y mx my= (e.ax- mx) * (e.b_y- my) - (e.ay- my) * (e.bx- mx) :=by simp only [Kc];grind
 have h:=jd3 ht (fun k=>hno ⟨k.1,by omega,by omega⟩)
 rw [Xw,Xw,hr]
 unfold qu
 generalize Kc e.ax e.ay e.bx e.b_y mx my=t at*
 simp only [z6]
 have e1: (e.ay≤my∧my<e.b_y)∧0<t↔(e.ay- my≤0∧0<e.b_y- my)∧0<t:=by omega
 have e2: (e.b_y≤my∧my<e.ay)∧t<0↔(e.b_y- my≤0∧0<e.ay- my)∧t<0:=by omega
 have e3: (e.ax≤mx∧mx<e.bx)∧0<t↔(e.ax- mx≤0∧0<e.bx- mx)∧0<t:=by omega
 have e4: (e.bx≤mx∧mx<e.ax)∧t<0↔(e.bx- mx≤0∧0<e.ax- mx)∧t<0:=by omega
 have e5:mx<e.ax∧e.ay≤my↔0<e.ax- mx∧e.ay- my≤0:=by omega
 have e6:mx<e.bx∧e.b_y≤my↔0<e.bx- mx∧e.b_y- my≤0:=by omega
 simp only [e1,e2,e3,e4,e5,e6]
 exact h
end Go.Proofs.YtbahojdbmmjkcaaGreat
