import Derived.Test.YtkagkgjjfdkoaaaGreatMHot
import Derived.Test.YtkagkgjjfdkoaaaGreatMPix
import Derived.Test.YtkagkgjjfdkoaaaGreatMLawKit
set_option linter.unusedVariables false
set_option linter.unusedSimpArgs false
namespace Go.Proofs.YtkagkgjjfdkoaaaGreat
open Go Go.RowKit
theorem jcm (a b p:Pn) :tn b a p= -tn a b p:=by simp only [tn,Kd];grind
theorem IV (a b p:Pn) :uX a b p=uX b a p:=by
 have:tn a b p=0↔tn b a p=0:=by have:=jcm a b p;omega
 rw [jfo,Kf,Kf,this,Int.min_comm,Int.max_comm,Int.min_comm a.2,Int.max_comm a.2]
theorem KX {a b c d:Pn} :qM a b c d=true↔((tn a b c<0∧0<tn a b d)∨(0<tn a b c∧tn a b d<0))∧((tn c d a<0∧0<tn c d b)∨(0<tn c d a∧tn c d b<0)) :=by
 simp only [qM,jeF,decide_eq_true_eq,YZ]
theorem H1 {n d r:Int} (hd:0<d) :zP n d=r↔(2*r- 1) *d≤2*n∧2*n< (2*r+1) *d:=by
 have h1:=Int.emod_nonneg n (show d≠0 by omega)
 have h2:=Int.emod_lt_of_pos n hd
 have h3:=Int.mul_ediv_add_emod n d
 have key: (2*zP n d- 1) *d≤2*n∧2*n< (2*zP n d+1) *d:=by
  unfold zP
  split
  ·have e: (2* (n/d+1) - 1) *d=2* (d* (n/d)) +d:=by grind
   have e': (2* (n/d+1) +1) *d=2* (d* (n/d)) +3*d:=by grind
   omega
  ·have e: (2* (n/d) - 1) *d=2* (d* (n/d)) - d:=by grind
   have e': (2* (n/d) +1) *d=2* (d* (n/d)) +d:=by grind
   omega
 constructor
 ·intro h;rw [←h];exact key
 ·rintro⟨k1,k2⟩
  have a1: (2*r- 1) *d< (2*zP n d+1) *d:=by omega
  have a2: (2*zP n d- 1) *d< (2*r+1) *d:=by omega
  have b1:=jfv a1 (jf3 hd)
  have b2:=jfv a2 (jf3 hd)
  omega
theorem Xa {n d n' d':Int} (hd:0<d) (hd':0<d') (h:n*d'=n'*d) :zP n d=zP n' d':=by
 obtain ⟨k1,k2⟩ := (H1 (n:=n') hd').1 rfl
 rw [H1 hd]
 generalize zP n' d'=r at*
 have e1: (2*r- 1) *d'*d≤2*n'*d:=jeH k1 (jf3 hd)
 have e2:2*n'*d< (2*r+1) *d'*d:=jfh k2 hd
 have e3:2*n'*d=2*n*d':=by grind
 rw [e3] at e1 e2
 have e4: (2*r- 1) *d'*d= (2*r- 1) *d*d':=by grind
 have e5: (2*r+1) *d'*d= (2*r+1) *d*d':=by grind
 rw [e4] at e1
 rw [e5] at e2
 exact⟨jfk e1 hd',jfv e2 (jf3 hd')⟩
theorem FZ {x y u v n d n' d':Int} (hd:d≠0) (hd':d'≠0) (h: (x*d+ (y- x) *n) *d'= (u*d'+ (v- u) *n') *d) :M1 x y n d=M1 u v n' d':=by
 unfold M1
 split<;>split
 ·exact Xa (by omega) (by omega) (by grind)
 ·exact Xa (by omega) (by omega) (by grind)
 ·exact Xa (by omega) (by omega) (by grind)
 ·exact Xa (by omega) (by omega) (by grind)
theorem RO {a b c d:Pn} (h:NV a b c d≠0) (h':NV c d a b≠0) :Da c d a b=Da a b c d:=by
 obtain ⟨a1,a2⟩ :=a;obtain ⟨b1,b2⟩ :=b;obtain ⟨c1,c2⟩ :=c;obtain ⟨d1,d2⟩ :=d
 unfold Da
 refine Prod.ext (FZ h' h ?_) (FZ h' h ?_)
 ·simp only [XJ,Zn,tn,Kd];grind
 ·simp only [XJ,Zn,tn,Kd];grind
def Ctn (s:Sp) (N D:Int) :Prop:= (s.ln*D<N*s.ld∨(s.ln*D=N*s.ld∧s.lc=true))∧(N*s.hd<s.hn*D∨(N*s.hd=s.hn*D∧s.hc=true))
theorem jbk {s:Sp} {N D:Int} (hD:0<D) (hl:0<s.ld) (hh:0<s.hd) (h:Ctn s N D) :va s=true:=by
 obtain ⟨h1,h2⟩ :=h
 simp only [va,jfs,jeF,decide_eq_true_eq]
 rcases h1 with h1 |⟨h1,c1⟩
 ·left
  have:=Vx (a:=s.ln) (b:=s.ld) (c:=N) (d:=D) (e:=s.hn) (f:=s.hd) hD hl hh h1 (by rcases h2 with h2 |⟨h2,_⟩ <;>omega)
  omega
 ·rcases h2 with h2 |⟨h2,c2⟩
  ·left
   have:=K5 (a:=s.ln) (b:=s.ld) (c:=N) (d:=D) (e:=s.hn) (f:=s.hd) hD hl hh (by omega) h2
   omega
  ·have:=vT (a:=s.ln) (b:=s.ld) (c:=N) (d:=D) (e:=s.hn) (f:=s.hd) hD hl hh (by omega) (by omega)
   by_cases e:s.ln*s.hd- s.hn*s.ld=0
   ·exact .inr ⟨⟨e,c1⟩,c2⟩
   ·left;omega
theorem F0 {s x:Sp} {N D:Int} (h:Ctn s N D) (hx:Ctn x N D) :Ctn (JT s x) N D:=by
 have hl:Ctn (qE s x) N D:=by unfold qE;split;exact⟨hx.1,h.2⟩;exact h
 unfold JT QS
 split
 ·exact⟨hl.1,hx.2⟩
 ·exact hl
theorem Tp {N D:Int} (h0:0≤N) (h1:N≤D) :Ctn Wq N D:=by
 unfold Ctn Wq
 simp
 omega
def InC (f d lo N D:Int) :Prop:=lo*D≤f*D+d*N∧f*D+d*N< (lo+2) *D
theorem To {f d lo N D:Int} (hD:0<D) (h0:0≤N) (h1:N≤D) (h:InC f d lo N D) :Kj f d lo=true∧Ctn (QE f d lo) N D:=by
 obtain ⟨k1,k2⟩ :=h
 unfold Kj QE
 by_cases p:0<d
 ·rw [if_pos p]
  refine⟨by simp;omega,?_,?_⟩
  ·have e: (lo- f) *D=lo*D- f*D:=by grind
   have e':N*d=d*N:=jfn _ _
   show(lo- f) *D<N*d∨((lo- f) *D=N*d∧true=true)
   rcases Int.lt_or_eq_of_le (show(lo- f) *D≤N*d by omega) with h | h
   ·exact .inl h
   ·exact .inr ⟨h,rfl⟩
  ·left
   have e: (lo+2- f) *D= (lo+2) *D- f*D:=by grind
   have e':N*d=d*N:=jfn _ _
   show N*d< (lo+2- f) *D
   omega
 ·rw [if_neg p]
  by_cases q:d<0
  ·rw [if_pos q]
   refine⟨by simp;omega,?_,?_⟩
   ·left
    have e: (f- lo- 2) *D=f*D- (lo+2) *D:=by grind
    have e':N* -d= -(d*N) :=by grind
    show(f- lo- 2) *D<N* -d
    omega
   ·have e: (f- lo) *D=f*D- lo*D:=by grind
    have e':N* -d= -(d*N) :=by grind
    show N* -d< (f- lo) *D∨(N* -d= (f- lo) *D∧true=true)
    rcases Int.lt_or_eq_of_le (show N* -d≤(f- lo) *D by omega) with h | h
    ·exact .inl h
    ·exact .inr ⟨h,rfl⟩
  ·rw [if_neg q]
   have d0:d=0:=by omega
   subst d0
   have e:f*D+0*N=f*D:=by omega
   rw [e] at k1 k2
   have g1:=jfk k1 hD
   have g2:=jfv k2 (jf3 hD)
   exact⟨by simp;omega,Tp h0 h1⟩
theorem jdc {f d lo f' d' lo' N D:Int} (hD:0<D) (h0:0≤N) (h1:N≤D) (h:InC f d lo N D) (h':InC f' d' lo' N D) :xm f d lo f' d' lo'=true:=by
 obtain ⟨a1,a2⟩ :=To hD h0 h1 h
 obtain ⟨b1,b2⟩ :=To hD h0 h1 h'
 have p1:=Kw uu (kG f d lo)
 have p2:=Kw p1 (kG f' d' lo')
 rw [xm,a1,b1,jbk hD p2.1 p2.2 (F0 (F0 (Tp h0 h1) a2) b2)]
 rfl
def ipB (a b p:Pn) :Bool:=wU a.1 a.2&&wU b.1 b.2&&wU p.1 p.2&&xm (2*a.1) (2* (b.1- a.1)) (2*p.1- 1) (2*a.2) (2* (b.2- a.2)) (2*p.2- 1)
theorem jcv {a b p:Pn} {N D:Int} (ha:bd2 a) (hb:bd2 b) (hp:bd2 p) (hD:0<D) (h0:0≤N) (h1:N≤D)
  (hx: (2*p.1- 1) *D≤2* (a.1*D+ (b.1- a.1) *N)∧2* (a.1*D+ (b.1- a.1) *N) < (2*p.1+1) *D)
  (hy: (2*p.2- 1) *D≤2* (a.2*D+ (b.2- a.2) *N)∧2* (a.2*D+ (b.2- a.2) *N) < (2*p.2+1) *D) :ipB a b p=true:=by
 rw [ipB,yj ha,yj hb,yj hp,jfe,jfe,jfe]
 refine jdc hD h0 h1 ?_ ?_
 ·have e:2*a.1*D+2* (b.1- a.1) *N=2* (a.1*D+ (b.1- a.1) *N) :=by grind
  have e2: (2*p.1- 1+2) *D= (2*p.1+1) *D:=by grind
  unfold InC
  rw [e,e2]
  exact hx
 ·have e:2*a.2*D+2* (b.2- a.2) *N=2* (a.2*D+ (b.2- a.2) *N) :=by grind
  have e2: (2*p.2- 1+2) *D= (2*p.2+1) *D:=by grind
  unfold InC
  rw [e,e2]
  exact hy
theorem TN {x y N D B r:Int} (hx: -B≤x∧x≤B) (hy: -B≤y∧y≤B) (hD:0<D) (h0:0≤N) (h1:N≤D) (h: (2*r- 1) *D≤2* (x*D+ (y- x) *N)∧2* (x*D+ (y- x) *N) < (2*r+1) *D) : -B≤r∧r≤B:=by
 have e:x*D+ (y- x) *N=x* (D- N) +y*N:=by grind
 rw [e] at h
 have a1:x* (D- N)≤B* (D- N) :=jeH hx.2 (by omega)
 have a2:y*N≤B*N:=jeH hy.2 h0
 have a3: -B* (D- N)≤x* (D- N) :=jeH hx.1 (by omega)
 have a4: -B*N≤y*N:=jeH hy.1 h0
 have e1:B* (D- N) +B*N=B*D:=by grind
 have e2: -B* (D- N) + -B*N= -B*D:=by grind
 have k1: (2*r- 1) *D≤(2*B) *D:=by
  have:2*B*D=2* (B*D) :=by grind
  omega
 have k2: (2* -B) *D< (2*r+1) *D:=by
  have:2* -B*D=2* (-B*D) :=by grind
  omega
 have m1:=jfk k1 hD
 have m2:=jfv k2 (jf3 hD)
 omega
theorem RR {x y n d:Int} (hd:d≠0) :∃N D:Int,0<D∧((d<0∧N= -n∧D= -d)∨(0<d∧N=n∧D=d))∧(2*M1 x y n d- 1) *D≤2* (x*D+ (y- x) *N)∧2* (x*D+ (y- x) *N) < (2*M1 x y n d+1) *D:=by
 unfold M1
 split
 ·exact⟨-n,-d,by omega, .inl ⟨by assumption,rfl,rfl⟩,(H1 (by omega)).1 rfl⟩
 ·exact⟨n,d,by omega, .inr ⟨by omega,rfl,rfl⟩,(H1 (by omega)).1 rfl⟩
theorem NW {a b c d:Pn} (ha:bd2 a) (hb:bd2 b) (hs:qM a b c d=true) :bd2 (Da a b c d)∧ipB a b (Da a b c d) =true:=by
 have hD:=uU hs
 have hs2:= (KX.1 hs).2
 rw [←Zn a c d] at hs2
 have e:=XJ a b c d
 rw [←Zn a c d] at e
 obtain ⟨N,D,h0,h1,hx⟩ :=RR (x:=a.1) (y:=b.1) (n:=crN a c d) hD
 obtain ⟨N',D',_,h1',hy⟩ :=RR (x:=a.2) (y:=b.2) (n:=crN a c d) hD
 obtain rfl:N'=N:=by omega
 obtain rfl:D'=D:=by omega
 have n0:0≤N'∧N'≤D':=by omega
 have m1:=TN ha.1 hb.1 h0 n0.1 n0.2 hx
 have m2:=TN ha.2 hb.2 h0 n0.1 n0.2 hy
 have hp:bd2 (Da a b c d) :=⟨m1,m2⟩
 exact⟨hp,jcv ha hb hp h0 n0.1 n0.2 hx hy⟩
theorem jdw {a b p:Pn} (ha:bd2 a) (hb:bd2 b) (h:uX a b p=true) :bd2 p∧ipB a b p=true:=by
 obtain ⟨ht,hx,hy⟩ :=Kf.1 h
 have hp:bd2 p:=by
  obtain ⟨⟨a1,a2⟩,a3,a4⟩ :=ha
  obtain ⟨⟨b1,b2⟩,b3,b4⟩ :=hb
  refine⟨⟨?_,?_⟩,?_,?_⟩ <;>omega
 have ht': (b.1- a.1) * (p.2- a.2) = (b.2- a.2) * (p.1- a.1) :=by simp only [tn,Kd] at ht;omega
 have key:∀N D:Int,0<D→0≤N→N≤D→a.1*D+ (b.1- a.1) *N=p.1*D→a.2*D+ (b.2- a.2) *N=p.2*D→ipB a b p=true:=by
  intro N D h0 h1 h2 e1 e2
  refine jcv ha hb hp h0 h1 h2 ?_ ?_
  ·rw [e1]
   have g1: (2*p.1- 1) *D=2* (p.1*D) - D:=by grind
   have g2: (2*p.1+1) *D=2* (p.1*D) +D:=by grind
   omega
  ·rw [e2]
   have g1: (2*p.2- 1) *D=2* (p.2*D) - D:=by grind
   have g2: (2*p.2+1) *D=2* (p.2*D) +D:=by grind
   omega
 refine⟨hp,?_⟩
 rcases jfA a.1 b.1 with h1 | h1 | h1
 ·exact key (p.1- a.1) (b.1- a.1) (by omega) (by omega) (by omega) (by grind) (by grind)
 ·rcases jfA a.2 b.2 with h2 | h2 | h2
  ·exact key (p.2- a.2) (b.2- a.2) (by omega) (by omega) (by omega) (by grind) (by grind)
  ·have e1:p.1=a.1:=by omega
   have e2:p.2=a.2:=by omega
   exact key 0 1 (by omega) (by omega) (by omega) (by omega) (by omega)
  ·exact key (a.2- p.2) (a.2- b.2) (by omega) (by omega) (by omega) (by grind) (by grind)
 ·exact key (a.1- p.1) (a.1- b.1) (by omega) (by omega) (by omega) (by grind) (by grind)
def zY (e f:Leg) :Prop:=wq (lA e) (lA f)∨(lA e=lA f∧wq (lB e) (lB f))
instance (e f:Leg) :Decidable (zY e f) :=by unfold zY;exact inferInstance
theorem xv {e f:Leg} (h1:lA e=lA f) (h2:lB e=lB f) :e=f:=by
 rcases e with⟨a1,a2,a3,a4⟩
 rcases f with⟨b1,b2,b3,b4⟩
 simp only [lA,lB,Prod.mk.injEq] at h1 h2
 rw [h1.1,h1.2,h2.1,h2.2]
theorem UK {e f g:Leg} (h:zY e f) (h':zY f g) :zY e g:=by
 rcases h with h |⟨h1,h2⟩
 ·rcases h' with h' |⟨h3,_⟩
  ·exact .inl (vP h h')
  ·exact .inl (h3▸h)
 ·rcases h' with h' |⟨h3,h4⟩
  ·exact .inl (h1▸h')
  ·exact .inr ⟨h1.trans h3,vP h2 h4⟩
theorem KV (e:Leg) :¬zY e e:=by
 rintro(h |⟨_,h⟩) <;>exact Q7 _ h
theorem HS (e f:Leg) :zY e f∨e=f∨zY f e:=by
 rcases Uc (lA e) (lA f) with h | h | h
 ·exact .inl (.inl h)
 ·rcases Uc (lB e) (lB f) with h' | h' | h'
  ·exact .inl (.inr ⟨h,h'⟩)
  ·exact .inr (.inl (xv h h'))
  ·exact .inr (.inr (.inr ⟨h.symm,h'⟩))
 ·exact .inr (.inr (.inl h))
theorem So {e f g:Leg} (h:¬zY e f) (h':¬zY f g) :¬zY e g:=fun k=>by
 rcases HS f g with c | c | c
 ·exact h' c
 ·exact h (c▸k)
 ·exact h (UK k c)
def jcQ (l:List Leg) :Prop:=l.Pairwise zY
theorem Lm:∀ {l m:List Leg},jcQ l→jcQ m→(∀p,p∈l↔p∈m)→l=m
 | [],[],_,_,_=>rfl
 | [],q::m,_,_,h=>absurd ((h q).2 (by simp)) (by simp)
 | p::l,[],_,_,h=>absurd ((h p).1 (by simp)) (by simp)
 | p::l,q::m,hl,hm,h=>by
  have kl:=jff.1 hl
  have km:=jff.1 hm
  have e:p=q:=by
   rcases je0.1 ((h p).1 (by simp)) with e | h1
   ·exact e
   ·rcases je0.1 ((h q).2 (by simp)) with e | h2
    ·exact e.symm
    ·exact absurd (UK (kl.1 q h2) (km.1 p h1)) (KV p)
  subst e
  congr 1
  refine Lm kl.2 km.2 fun r=> ?_
  constructor
  ·intro hr
   rcases je0.1 ((h r).1 (je5 _ hr)) with e | h1
   ·exact absurd (e▸kl.1 r hr) (KV _)
   ·exact h1
  ·intro hr
   rcases je0.1 ((h r).2 (je5 _ hr)) with e | h1
   ·exact absurd (e▸km.1 r hr) (KV _)
   ·exact h1
def QA:List Leg→List Leg
 | [] => []
 | [p] => [p]
 | p::q::l=>if p=q then QA (q::l) else p::QA (q::l)
theorem zo:∀(l:List Leg) (r:Leg),r∈QA l↔r∈l
 | [],_=>Iff.rfl
 | [_],_=>Iff.rfl
 | p::q::l,r=>by
  unfold QA
  split
  ·rename_i e
   rw [zo (q::l) r,e]
   simp
  ·rw [je0,zo (q::l) r]
   simp
def NG (l:List Leg) :Prop:=l.Pairwise fun p q=>¬zY q p
theorem OT:∀ {l:List Leg},NG l→jcQ (QA l)
 | [],_=>List.Pairwise.nil
 | [p],_=>jf5 _ _
 | p::q::l,h=>by
  have h1:=jff.1 h
  have ih:=OT (l:=q::l) h1.2
  unfold QA
  split
  ·exact ih
  ·rename_i hne
   refine jff.2 ⟨fun r hr=> ?_,ih⟩
   rw [zo] at hr
   have hpq:zY p q:=by
    rcases HS p q with h2 | h2 | h2
    ·exact h2
    ·exact absurd h2 hne
    ·exact absurd h2 (h1.1 q (by simp))
   rcases je0.1 hr with e | hr
   ·rw [e];exact hpq
   ·have h3:= (jff.1 h1.2).1 r hr
    rcases HS q r with c | c | c
    ·exact UK hpq c
    ·exact c▸hpq
    ·exact absurd c h3
def vO (e:Leg) :Leg:=⟨e.bx,e.b_y,e.ax,e.ay⟩
def Kz (e:Leg) :Leg:=if wq (lB e) (lA e) then vO e else e
def sg (e:Leg) :Int:=if wq (lB e) (lA e) then-1 else 1
theorem Bw (e:Leg) :vO (vO e) =e:=rfl
theorem ES {e:Leg} (h:qO e) :qO (Kz e) :=by
 unfold Kz
 split
 ·exact⟨h.2.2.1,h.2.2.2,h.1,h.2.1⟩
 ·exact h
theorem jbS (e:Leg) :¬wq (lB (Kz e)) (lA (Kz e)) :=by
 unfold Kz
 split
 ·rename_i h
  intro k
  exact Q7 _ (vP h k)
 ·assumption
theorem HV {p e:Leg} (hp:¬wq (lB p) (lA p)) (hne:lA p≠lB p) :Kz e=p↔e=p∨e=vO p:=by
 unfold Kz
 constructor
 ·split
  ·intro h
   exact .inr (by rw [←h];rfl)
  ·exact .inl
 ·rintro(rfl | rfl)
  ·rw [if_neg hp]
  ·have:wq (lB (vO p)) (lA (vO p)) :=by
    rcases Uc (lA p) (lB p) with h | h | h
    ·exact h
    ·exact absurd h hne
    ·exact absurd h hp
   rw [if_pos this,Bw]
theorem Nc {p:Leg} (hp:¬wq (lB p) (lA p)) :sg p=1:=if_neg hp
theorem jat {p:Leg} (hp:¬wq (lB p) (lA p)) (hne:lA p≠lB p) :sg (vO p) = -1:=by
 have:wq (lB (vO p)) (lA (vO p)) :=by
  rcases Uc (lA p) (lB p) with h | h | h
  ·exact h
  ·exact absurd h hne
  ·exact absurd h hp
 exact if_pos this
def sm {α:Type} (f:α→Int) :List α→Int
 | [] =>0
 | x::l=>f x+sm f l
theorem U1 {α:Type} (f:α→Int) :∀a b:List α,sm f (a++b) =sm f a+sm f b
 | [],b=>by simp [sm]
 | x::a,b=>by simp only [jeG,sm,U1 f a b];omega
theorem U2 {α:Type} {f g:α→Int} :∀ {l:List α},(∀x∈l,f x=g x)→sm f l=sm g l
 | [],_=>rfl
 | x::l,h=>by simp only [sm];rw [h x (by simp),U2 fun y hy=>h y (je5 _ hy)]
theorem jax {α:Type} (f g:α→Int) :∀l:List α,sm (fun x=>f x+g x) l=sm f l+sm g l
 | [] =>rfl
 | x::l=>by simp only [sm,jax f g l];omega
theorem jaA {α:Type} (f g:α→Int) :∀l:List α,sm (fun x=>f x- g x) l=sm f l- sm g l
 | [] =>rfl
 | x::l=>by simp only [sm,jaA f g l];omega
theorem jcL {α:Type} {f:α→Int} :∀ {l:List α},(∀x∈l,-1≤f x∧f x≤1)→-(l.length:Int)≤sm f l∧sm f l≤l.length
 | [],_=>by simp [sm]
 | x::l,h=>by
  have h1:=h x (by simp)
  have h2:=jcL (l:=l) fun y hy=>h y (je5 _ hy)
  simp only [sm,jeP]
  omega
structure Nt where
 e:Leg
 one:Int
 two:Int
 l1:Int
 l2:Int
def qe (x:Nt) :List Value:=jZ x.e++ [.int .i64 x.one, .int .i64 x.two, .int .i64 x.l1, .int .i64 x.l2]
def YL (e:Leg) :Nt:=⟨e,0,0,0,0⟩
def nt (l:List Nt) (k:Nat) :Nt:=l.getD k (YL ⟨0,0,0,0⟩)
theorem Yk {l:List Nt} {k:Nat} (h:k<l.length) :l[k] =nt l k:=by simp [nt,List.getD,List.getElem?_eq_getElem h]
def VP (s:Bool) (n:Int) (x:Nt) :Nt:=if s=true then {x with two:=x.two+n} else {x with one:=x.one+n}
theorem Z5 (s:Bool) (n:Int) (x:Nt) : (VP s n x).e=x.e:=by unfold VP;split<;>rfl
def wV (s:Bool) (e:Leg) :List Nt→List Nt
 | [] => [VP s (sg e) (YL (Kz e))]
 | x::l=>if zY x.e (Kz e) then x::wV s e l else if x.e=Kz e then VP s (sg e) x::l else VP s (sg e) (YL (Kz e)) ::x::l
def XQ (l:List Nt) (k:Nat) (e:Leg) :List Nt:=l.take k++YL e::l.drop k
theorem FD {s:Bool} {e:Leg} :∀ {l:List Nt} {k:Nat},k≤l.length→(∀j,j<k→zY (nt l j).e (Kz e))→(k<l.length→¬zY (nt l k).e (Kz e)∧(nt l k).e≠Kz e)→
  wV s e l= (XQ l k (Kz e)).set k (VP s (sg e) (nt (XQ l k (Kz e)) k))
 | [],k,hk,_,_=>by
  have:k=0:=by simpa using hk
  subst this
  rfl
 | x::l,0,_,_,h=>by
  have:¬zY x.e (Kz e)∧x.e≠Kz e:=h (by simp)
  rw [wV,if_neg this.1,if_neg this.2]
  rfl
 | x::l,k+1,hk,h1,h2=>by
  have h0:zY x.e (Kz e) :=h1 0 (by omega)
  rw [wV,if_pos h0,FD (l:=l) (k:=k) (by simpa using hk) (fun j hj=>h1 (j+1) (by omega)) (fun hk'=>h2 (by simpa using hk'))]
  rfl
theorem FE {s:Bool} {e:Leg} :∀ {l:List Nt} {k:Nat},k<l.length→(∀j,j<k→zY (nt l j).e (Kz e))→(nt l k).e=Kz e→
  wV s e l=l.set k (VP s (sg e) (nt l k))
 | [],k,hk,_,_=>absurd hk (by simp)
 | x::l,0,_,_,h=>by
  have h':x.e=Kz e:=h
  rw [wV,if_neg (by rw [h'];exact KV _),if_pos h']
  rfl
 | x::l,k+1,hk,h1,h2=>by
  have h0:zY x.e (Kz e) :=h1 0 (by omega)
  rw [wV,if_pos h0,FE (l:=l) (k:=k) (by simpa using hk) (fun j hj=>h1 (j+1) (by omega)) h2]
  rfl
theorem Lh {s:Bool} {e q:Leg} :∀ {l:List Nt},(∃x∈wV s e l,x.e=q)↔(∃x∈l,x.e=q)∨q=Kz e
 | [] =>by simp [wV,Z5,YL,eq_comm]
 | x::l=>by
  have ih:=Lh (s:=s) (e:=e) (q:=q) (l:=l)
  unfold wV
  split
  ·simp only [je0,exists_eq_or_imp,ih,or_assoc]
  ·split
   ·rename_i h
    simp only [je0,exists_eq_or_imp,Z5]
    constructor
    ·exact .inl
    ·rintro(h1 | h1)
     ·exact h1
     ·exact .inl (h1▸h)
   ·simp only [je0,exists_eq_or_imp,Z5]
    constructor
    ·rintro(h1 | h1)
     ·exact .inr h1.symm
     ·exact .inl h1
    ·rintro(h1 | h1)
     ·exact .inr h1
     ·exact .inl h1.symm
def XB (l:List Nt) :Prop:=l.Pairwise fun x y=>zY x.e y.e
theorem FB {s:Bool} {e:Leg} :∀ {l:List Nt},XB l→XB (wV s e l)
 | [],_=>jf5 _ _
 | x::l,h=>by
  have h1:=jff.1 h
  unfold wV
  split
  ·rename_i hx
   refine jff.2 ⟨fun y hy=> ?_,FB h1.2⟩
   rcases(Lh (q:=y.e)).1 ⟨y,hy,rfl⟩ with⟨z,hz,e1⟩ | e1
   ·rw [←e1];exact h1.1 z hz
   ·rw [e1];exact hx
  ·rename_i hx
   split
   ·refine jff.2 ⟨fun y hy=> ?_,h1.2⟩
    rw [Z5];exact h1.1 y hy
   ·rename_i hne
    have hlt:zY (Kz e) x.e:=by
     rcases HS (Kz e) x.e with c | c | c
     ·exact c
     ·exact absurd c.symm hne
     ·exact absurd c hx
    refine jff.2 ⟨fun y hy=> ?_,h⟩
    rw [Z5]
    rcases je0.1 hy with c | hy
    ·rw [c];exact hlt
    ·exact UK hlt (h1.1 y hy)
def v6 (s:Bool) (x:Nt) :Int:=if s=true then x.two else x.one
def wS (s:Bool) (F:Leg→Int) (l:List Nt) :Int:=sm (fun x=>v6 s x*F x.e) l
theorem Cm {s t:Bool} {e:Leg} (F:Leg→Int) :∀(l:List Nt),wS t F (wV s e l) =wS t F l+ (if s=t then sg e*F (Kz e) else 0)
 | [] =>by
  cases s<;>cases t<;>simp [wS,wV,sm,v6,VP,YL]
 | x::l=>by
  have ih:=Cm (s:=s) (t:=t) (e:=e) F l
  unfold wS at ih⊢
  unfold wV
  split
  ·simp only [sm,ih];omega
  ·split
   ·rename_i h
    cases s<;>cases t<;>simp [sm,v6,VP,h] <;>grind
   ·cases s<;>cases t<;>simp [sm,v6,VP,YL] <;>grind
def qW (s:Bool) (es:List Leg) (l:List Nt) :List Nt:=es.foldl (fun l e=>wV s e l) l
theorem Ww {s:Bool} :∀ {es:List Leg} {l:List Nt},XB l→XB (qW s es l)
 | [],_,h=>h
 | e::es,l,h=>Ww (es:=es) (FB (e:=e) h)
theorem Wz {s:Bool} {q:Leg} :∀ {es:List Leg} {l:List Nt},(∃x∈qW s es l,x.e=q)↔(∃x∈l,x.e=q)∨∃e∈es,q=Kz e
 | [],l=>by simp [qW]
 | e::es,l=>by
  have:=Wz (s:=s) (q:=q) (es:=es) (l:=wV s e l)
  unfold qW at this⊢
  rw [jfD,this,Lh]
  simp only [je0,exists_eq_or_imp,or_assoc]
theorem Yi {s t:Bool} (F:Leg→Int) :∀(es:List Leg) (l:List Nt),wS t F (qW s es l) =wS t F l+ (if s=t then sm (fun e=>sg e*F (Kz e)) es else 0)
 | [],l=>by simp [qW,sm]
 | e::es,l=>by
  have:=Yi (s:=s) (t:=t) F es (wV s e l)
  unfold qW at this⊢
  rw [jfD,this,Cm]
  split<;> (try simp only [sm]) <;>omega
theorem FC {s:Bool} {e:Leg} :∀(l:List Nt),(wV s e l).length≤l.length+1
 | [] =>by simp [wV]
 | x::l=>by
  have:=FC (s:=s) (e:=e) l
  unfold wV
  split
  ·simp only [jeP];omega
  ·split<;>simp only [jeP] <;>omega
def zK (x:Int) :Int:=if x<0 then-x else x
theorem Dl (x:Int) :0≤zK x:=by unfold zK;split<;>omega
theorem Tv (x:Int) : -zK x≤x∧x≤zK x:=by unfold zK;split<;>omega
def aS (s:Bool) (l:List Nt) :Int:=sm (fun x=>zK (v6 s x)) l
theorem Rk (e:Leg) :sg e=1∨sg e= -1:=by unfold sg;split<;>simp
theorem Cl {s t:Bool} {e:Leg} :∀(l:List Nt),aS t (wV s e l)≤aS t l+ (if s=t then 1 else 0)
 | [] =>by
  have:=Rk e
  cases s<;>cases t<;>simp [aS,wV,sm,v6,VP,YL,zK] <;>omega
 | x::l=>by
  have ih:=Cl (s:=s) (t:=t) (e:=e) l
  have:=Rk e
  unfold aS at ih⊢
  unfold wV
  split
  ·simp only [sm];omega
  ·split
   ·cases s<;>cases t<;>simp [sm,v6,VP,zK] <;> (repeat' split) <;>omega
   ·cases s<;>cases t<;>simp [sm,v6,VP,YL,zK] <;> (repeat' split) <;>omega
theorem Yh {s t:Bool} :∀(es:List Leg) (l:List Nt),aS t (qW s es l)≤aS t l+ (if s=t then(es.length:Int) else 0)
 | [],l=>by simp [qW]
 | e::es,l=>by
  have h1:=Yh (s:=s) (t:=t) es (wV s e l)
  have h2:=Cl (s:=s) (t:=t) (e:=e) l
  unfold qW at h1⊢
  rw [jfD]
  split at h1<;>split at h2<;>simp only [jeP] <;> (try split) <;>simp_all<;>omega
structure Ne where
 e:Leg
 net:Int
 left:Int
 right:Int
def wP (p:Leg) :Int:=p.ax+p.bx
def w8 (p:Leg) :Int:=p.ay+p.b_y
def xD (es:List Leg) (p:Leg) :Int:=sm (fun e=>if Kz e=p then sg e else 0) es
def Oz (es:List Leg) (p:Leg) :Int:=sm (fun e=>if Kz e=p then 0 else Ko (vt true e) (wP p) (w8 p)) es
def ZY (es:List Leg) (p:Leg) :Ne:=if p.ay=p.b_y then⟨p,xD es p,Oz es p,Oz es p- xD es p⟩ else⟨p,xD es p,Oz es p+xD es p,Oz es p⟩
def zQ (e:Leg) :Leg:=⟨-e.ay,e.ax,-e.b_y,e.bx⟩
def M9 (p q:Leg) :Int:=if p.ay=p.b_y then Ko (zQ (vt true q)) (-(w8 p)) (wP p) else Ko (vt true q) (wP p) (w8 p)
def Qp (s:Bool) (l:List Nt) (k:Nat) :Nat→Int
 | 0=>0
 | i+1=>Qp s l k i+ (if i=k then 0 else v6 s (nt l i) *M9 (nt l k).e (nt l i).e)
theorem jaU (l:Leg) (x y:Int) : -1≤Ko l x y∧Ko l x y≤1:=by unfold Ko;split<;> (try split) <;>omega
theorem ja8 (p q:Leg) : -1≤M9 p q∧M9 p q≤1:=by unfold M9;split<;>exact jaU _ _ _
theorem EL {c g:Int} (h: -1≤g∧g≤1) : -zK c≤c*g∧c*g≤zK c:=by
 have h1:=Tv c
 have:g= -1∨g=0∨g=1:=by omega
 rcases this with rfl | rfl | rfl<;>simp<;>omega
theorem H4 {α:Type} (f:α→Int) {l:List α} {k:Nat} (h:k<l.length) :sm f (l.take (k+1)) =sm f (l.take k) +f l[k] :=by
 rw [jeS h,U1]
 simp [sm]
theorem jaz {α:Type} {f:α→Int} (h:∀x,0≤f x) :∀l:List α,0≤sm f l
 | [] =>Int.le_refl _
 | x::l=>by
  have:=h x
  have:=jaz h l
  simp only [sm]
  omega
theorem SE {α:Type} {f:α→Int} (h:∀x,0≤f x) (l:List α) (k:Nat) :sm f (l.take k)≤sm f l:=by
 have e:sm f l=sm f (l.take k) +sm f (l.drop k) :=by rw [←U1,jeU]
 have:=jaz h (l.drop k)
 omega
theorem OO {s:Bool} {l:List Nt} {k:Nat} :∀i,i≤l.length→-sm (fun x=>zK (v6 s x)) (l.take i)≤Qp s l k i∧Qp s l k i≤sm (fun x=>zK (v6 s x)) (l.take i)
 | 0,_=>by simp [Qp,sm]
 | i+1,h=>by
  have h1:=OO (s:=s) (l:=l) (k:=k) i (by omega)
  have h2:=EL (c:=v6 s (nt l i)) (ja8 (nt l k).e (nt l i).e)
  have h3:=Dl (v6 s (nt l i))
  rw [H4 _ (by omega),Yk (by omega),Qp]
  split<;>omega
theorem Uz {s:Bool} {l:List Nt} {k i:Nat} (h:i≤l.length) : -aS s l≤Qp s l k i∧Qp s l k i≤aS s l:=by
 have h1:=OO (s:=s) (l:=l) (k:=k) i h
 have h2:=SE (f:=fun x=>zK (v6 s x)) (fun x=>Dl _) l i
 unfold aS
 omega
theorem XU {l:List Nt} {k:Nat} (h:k<l.length) :nt l k∈l:=by rw [←Yk h];exact jeW h
theorem Cp {l:List Nt} (h:XB l) {i k:Nat} (hi:i<l.length) (hk:k<l.length) (he: (nt l i).e= (nt l k).e) :i=k:=by
 rcases Nat.lt_trichotomy i k with c | c | c
 ·have:=jfH.1 h i k hi hk c
  rw [Yk hi,Yk hk,he] at this
  exact absurd this (KV _)
 ·exact c
 ·have:=jfH.1 h k i hk hi c
  rw [Yk hi,Yk hk,he] at this
  exact absurd this (KV _)
theorem FH {s:Bool} {l:List Nt} {k:Nat} (ha:XB l) (hk:k<l.length) :∀i,i≤l.length→Qp s l k i=sm (fun x=>v6 s x* (if x.e= (nt l k).e then 0 else M9 (nt l k).e x.e)) (l.take i)
 | 0,_=>rfl
 | i+1,h=>by
  rw [H4 _ (by omega),Yk (by omega),Qp,FH ha hk i (by omega)]
  congr 1
  by_cases e:i=k
  ·subst e
   simp
  ·rw [if_neg e,if_neg fun he=>e (Cp ha (by omega) hk he)]
theorem NM {s:Bool} {l:List Nt} {k:Nat} (ha:XB l) (hk:k<l.length) :Qp s l k l.length=wS s (fun q=>if q= (nt l k).e then 0 else M9 (nt l k).e q) l:=by
 rw [FH ha hk _ (jeD _),jfr]
 rfl
theorem Nw {s:Bool} {p:Leg} :∀ {l:List Nt},(∀x∈l,x.e≠p)→wS s (fun q=>if q=p then 1 else 0) l=0
 | [],_=>rfl
 | x::l,h=>by
  have:=Nw (s:=s) (l:=l) fun y hy=>h y (je5 _ hy)
  unfold wS at*
  simp only [sm,this]
  rw [if_neg (h x (by simp))]
  simp
theorem jcO {s:Bool} :∀ {l:List Nt} {x:Nt},XB l→x∈l→wS s (fun q=>if q=x.e then 1 else 0) l=v6 s x
 | y::l,x,h,hx=>by
  have h1:=jff.1 h
  rcases je0.1 hx with e | hx
  ·subst e
   have:=Nw (s:=s) (p:=x.e) (l:=l) fun z hz e=>KV _ (e▸h1.1 z hz)
   unfold wS at*
   simp only [sm,this,if_true]
   omega
  ·have:=jcO (s:=s) h1.2 hx
   have hne:y.e≠x.e:=fun e=>KV _ (e▸h1.1 x hx)
   unfold wS at*
   simp only [sm,this,if_neg hne]
   omega
theorem Xt (l:Leg) (x y:Int) :Ko l x y=if(l.ay≤y∧y<l.b_y)∧0<Kd l.ax l.ay l.bx l.b_y x y then 1 else if(l.b_y≤y∧y<l.ay)∧Kd l.ax l.ay l.bx l.b_y x y<0 then-1 else 0:=by
 unfold Ko Cc y8
 simp only [jeF,decide_eq_true_eq]
theorem BS (e:Leg) (x y:Int) :Ko (vO e) x y= -Ko e x y:=by
 have ht:Kd (vO e).ax (vO e).ay (vO e).bx (vO e).b_y x y= -Kd e.ax e.ay e.bx e.b_y x y:=by simp only [vO,Kd];grind
 rw [Xt,Xt,ht]
 generalize Kd e.ax e.ay e.bx e.b_y x y=t
 simp only [vO]
 repeat' split
 all_goals omega
theorem jbo (e:Leg) (x y:Int) :sg e*Ko (vt true (Kz e)) x y=Ko (vt true e) x y:=by
 unfold Kz sg
 split
 ·rw [show vt true (vO e) =vO (vt true e) from rfl,BS];omega
 ·omega
theorem jb8 (e:Leg) (x y:Int) :sg e*Ko (zQ (vt true (Kz e))) x y=Ko (zQ (vt true e)) x y:=by
 unfold Kz sg
 split
 ·rw [show zQ (vt true (vO e)) =vO (zQ (vt true e)) from rfl,BS];omega
 ·omega
def qu (x y mx my:Int) :Int:=if mx<x∧y≤my then 1 else 0
theorem zE {a b p:Int} (h:p=a*b) : (0<a∧0<b∧0<p)∨(0<a∧b<0∧p<0)∨(a<0∧0<b∧p<0)∨(a<0∧b<0∧0<p)∨(a=0∧p=0)∨(b=0∧p=0) :=by
 subst h
 rcases jfA a 0 with ha | ha | ha
 ·rcases jfA b 0 with hb | hb | hb
  ·exact .inr (.inr (.inr (.inl ⟨ha,hb,Int.mul_pos_of_neg_of_neg ha hb⟩)))
  ·subst hb;simp
  ·exact .inr (.inr (.inl ⟨ha,hb,jfS ha hb⟩))
 ·subst ha;simp
 ·rcases jfA b 0 with hb | hb | hb
  ·exact .inr (.inl ⟨ha,hb,Int.mul_neg_of_pos_of_neg ha hb⟩)
  ·subst hb;simp
  ·exact .inl ⟨ha,hb,jfw ha hb⟩
theorem jck {a1 a2 b1 b2 t:Int} (ht:t=a1*b2- a2*b1) (hno:¬(t=0∧(min a1 b1≤0∧0≤max a1 b1)∧min a2 b2≤0∧0≤max a2 b2)) :
  (if(a2≤0∧0<b2)∧0<t then(1:Int) else if(b2≤0∧0<a2)∧t<0 then-1 else 0) - (if(a1≤0∧0<b1)∧0<t then(1:Int) else if(b1≤0∧0<a1)∧t<0 then-1 else 0)
   = (if 0<a1∧a2≤0 then 1 else 0) - (if 0<b1∧b2≤0 then 1 else 0) :=by
 have h1:=zE (a:=a1) (b:=b2) rfl
 have h2:=zE (a:=a2) (b:=b1) rfl
 generalize a1*b2=p at*
 generalize a2*b1=q at*
 subst ht
 rcases h1 with h1 | h1 | h1 | h1 | h1 | h1<;>rcases h2 with h2 | h2 | h2 | h2 | h2 | h2<;> (repeat' split) <;>omega
theorem jaL {e:Leg} {mx my:Int} (hno:¬(Kd e.ax e.ay e.bx e.b_y mx my=0∧(min e.ax e.bx≤mx∧mx≤max e.ax e.bx)∧min e.ay e.b_y≤my∧my≤max e.ay e.b_y)) :
  Ko e mx my- Ko (zQ e) (-my) mx=qu e.ax e.ay mx my- qu e.bx e.b_y mx my:=by
 have hr:Kd (zQ e).ax (zQ e).ay (zQ e).bx (zQ e).b_y (-my) mx=Kd e.ax e.ay e.bx e.b_y mx my:=by simp only [zQ,Kd];grind
 have ht:Kd e.ax e.ay e.bx e.b_y mx my= (e.ax- mx) * (e.b_y- my) - (e.ay- my) * (e.bx- mx) :=by simp only [Kd];grind
 have h:=jck ht (fun k=>hno ⟨k.1,by omega,by omega⟩)
 rw [Xt,Xt,hr]
 unfold qu
 generalize Kd e.ax e.ay e.bx e.b_y mx my=t at*
 simp only [zQ]
 have e1: (e.ay≤my∧my<e.b_y)∧0<t↔(e.ay- my≤0∧0<e.b_y- my)∧0<t:=by omega
 have e2: (e.b_y≤my∧my<e.ay)∧t<0↔(e.b_y- my≤0∧0<e.ay- my)∧t<0:=by omega
 have e3: (e.ax≤mx∧mx<e.bx)∧0<t↔(e.ax- mx≤0∧0<e.bx- mx)∧0<t:=by omega
 have e4: (e.bx≤mx∧mx<e.ax)∧t<0↔(e.bx- mx≤0∧0<e.ax- mx)∧t<0:=by omega
 have e5:mx<e.ax∧e.ay≤my↔0<e.ax- mx∧e.ay- my≤0:=by omega
 have e6:mx<e.bx∧e.b_y≤my↔0<e.bx- mx∧e.b_y- my≤0:=by omega
 simp only [e1,e2,e3,e4,e5,e6]
 exact h
end Go.Proofs.YtkagkgjjfdkoaaaGreat
