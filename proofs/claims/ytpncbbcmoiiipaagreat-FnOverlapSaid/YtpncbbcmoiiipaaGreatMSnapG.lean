import Derived.Test.YtpncbbcmoiiipaaGreatMRounds
import Derived.Test.YtpncbbcmoiiipaaGreatMHotLaw
import Derived.Test.YtpncbbcmoiiipaaGreatMCross
import Derived.Test.YtpncbbcmoiiipaaGreatMOwn
set_option linter.unusedVariables false
set_option linter.unusedSimpArgs false
namespace Go.Proofs.YtpncbbcmoiiipaaGreat
open Go Go.RowKit
set_option maxRecDepth 100000
set_option maxHeartbeats 4000000
def Nb (E:List Leg) :List Pn:=kH (U0 E E.length)
theorem Ia {a b c d:Pn} (h:qU a b c d=2) :qf a b c d=true:=by
 unfold qU at h
 split at h
 ·split at h
  ·rename_i h1;exact h1
  ·omega
 ·split at h<;>omega
theorem M0 {E:List Leg} :∀i,i≤E.length→∀k,k<i→lA (lg E k)∈U0 E i∧lB (lg E k)∈U0 E i
 | 0,_,k,hk=>absurd hk Om
 | i+1,hi,k,hk=>by
  rw [U0]
  rcases jjp (show k≤i by omega) with h | rfl
  ·obtain ⟨h1,h2⟩ :=M0 (E:=E) i Om k h
   exact⟨jjc _ (jjc _ h1),jjc _ (jjc _ h2)⟩
  ·exact⟨jjc _ (jjH _ (by simp)),jjc _ (jjH _ (by simp))⟩
theorem jbB {E:List Leg} (hok:∀l∈E,qN l) {i:Nat} (hi:i<E.length) :∀k,k≤i→∀p∈cz E i k,bd2 p
 | 0,_,p,hp=>by simp [cz] at hp
 | k+1,hk,p,hp=>by
  rw [cz] at hp
  rcases jiv.1 hp with h | h
  ·exact jbB hok hi k Om p h
  ·split at h
   ·rename_i hm
    rw [jik.1 h]
    exact(Ex (VG (QS hok Om)) (wq (QS hok Om)) (Ia hm)).1
   ·simp at h
theorem PM {E:List Leg} (hok:∀l∈E,qN l) :∀i,i≤E.length→∀p∈U0 E i,bd2 p
 | 0,_,p,hp=>by simp [U0] at hp
 | i+1,hi,p,hp=>by
  rw [U0] at hp
  rcases jiv.1 hp with h | h
  ·rcases jiv.1 h with h | h
   ·exact PM hok i Om p h
   ·simp only [jir,ji3,or_false] at h
    rcases h with rfl | rfl
    ·exact VG (QS hok Om)
    ·exact wq (QS hok Om)
  ·exact jbB hok Om i (jih _) p h
theorem Eg {l:List Pn} (h:Asc l) :l.Nodup:=List.Pairwise.imp (fun {a b} (hab:vh a b) (e:a=b) =>kC a (by rw [←e] at hab;exact hab)) h
theorem xx {E:List Leg} {k:Nat} (hk:k<E.length) :lg E k=E[k] :=by simp [lg,List.getD,hk]
theorem MG {rs:List jV} :∀k,k≤rs.length→cnt (vf rs k) = (qJ rs k).length
 | 0,_=>rfl
 | k+1,hk=>by
  have ih:=MG (rs:=rs) k Om
  have e: (qJ rs (k+1)).length= (qJ rs k).length+ (J0 (rg rs k)).length:=jif
  have e2: (Q3 (rg rs k)).length= (J0 (rg rs k)).length:=jit ..
  by_cases h:0< (Q3 (rg rs k)).length
  ·rw [Yk Om h,e,←ih]
   simp [cnt,e2]
  ·rw [Zs Om h,e,←ih]
   omega
theorem zx {rs:List jV} (hr:JE rs=true) :∀r∈J8 rs,bare r:=fun r h=>by
 obtain ⟨h0,q,hq,rfl⟩ :=xd h
 obtain ⟨i,hi,e⟩ :=ji0 hq
 have:=Qf (Km hr hi)
 rw [Wa hi] at e
 rw [e] at this
 exact ZA this.1 h0
theorem jeC {xs:List Pn} (h:QA xs=true) :∀p∈Q3 xs,wR p.1 p.2=true:=fun p hp=>by
 obtain ⟨l,hl,rfl⟩ :=jip.1 hp
 exact yh (VG (Yr (uJ h).2.2 _ (jih _) l hl))
theorem Yj {rs:List jV} (hr:JE rs=true) :JE (J8 rs) =true:=by
 have h40:=WR hr
 have hl:=xb rs rs.length
 have hcnt: (jE (J8 rs)).length≤400:=by
  rw [Xk (zx hr)]
  have:=MG (rs:=rs) rs.length (jih _)
  have h4: (jE rs).length≤400:=by simp [JE] at hr;omega
  unfold jE at h4
  unfold J8
  omega
 have hall: (J8 rs).all QA=true:=jjn.2 fun r h=>by
  have hs:=xt hr h
  obtain ⟨h0,q,hq,rfl⟩ :=xd h
  obtain ⟨i,hi,e⟩ :=ji0 hq
  have hb:=Km hr hi
  rw [Wa hi] at e
  rw [e] at hb
  unfold QA xZ
  rw [decide_eq_true (show(1:Int)≤((Q3 q).length:Int) by omega),decide_eq_true (show((Q3 q).length:Int)≤400 by omega)]
  exact jjn.2 fun p hp=>jeC hb p hp
 rw [UP (by unfold J8;omega) hall]
 exact decide_eq_true hcnt
structure HotOk (hot:List Pn) (ss:List jV) :Prop where
 reg:JE ss=true
 ok:∀p∈hot,wR p.1 p.2=true
 asc:Asc hot
 nd:hot.Nodup
 len:hot.length≤1048576
 bare:bareG hot ss
theorem Fe {hot:List Pn} (hnd:hot.Nodup) :∀(f:Nat) {rs ss:List jV} {r q:Nat},JE rs=true→bareG hot rs→WV hot f rs r=some (ss,q)→JE ss=true
 | 0,_,_,_,_,_,_,h=>by cases h
 | f+1,rs,ss,r,q,hr,hb,h=>by
  rw [WV] at h
  split at h
  ·cases h
  ·rename_i h1
   split at h
   ·injection h with h
    injection h with h2 h3
    exact h2▸hr
   ·exact Fe hnd f (by simpa using h1) (hb.snap hnd) h
theorem jdw {hot:List Pn} (hnd:hot.Nodup) {rs ss:List jV} {r:Nat} (hr:JE rs=true) (hb:bareG hot rs) (h:zn hot rs=some (ss,r)) :JE ss=true:=Fe hnd _ hr hb h
theorem jbO {P:Program} {f:FuncId} {args:Array Value} {w1:World} {n lo hi:Nat} {ss rs:List jV} {A:Option Addr} {c:Nat} {V:Option Addr→Nat→Value} (hg: (Ky n ss lo hi A).P w1) (hn:ss.length=n)
  (h:Calls P f args w1 fun e w'=>∃A' c',e= .returned (V A' c')∧((A'=A∧c'=c∧rs=ss)∨OwnG w1.heap.size w'.heap.size w' A' rs.length rs)∧Over w1 w') :
  Calls P f args w1 fun e w'=>∃x: (Option Addr×Nat)×Nat×Nat,e= .returned (V x.1.1 x.1.2)∧Wrs (Ky n ss lo hi A).F w1 w'∧(Ky rs.length rs x.2.1 x.2.2 x.1.1).P w'∧(∀b,(Ky rs.length rs x.2.1 x.2.2 x.1.1).F b→(Ky n ss lo hi A).F b∨w1.heap.size≤b)∧(Ky rs.length rs x.2.1 x.2.2 x.1.1).B=0:=by
 refine h.mono ?_
 rintro e w' ⟨A',c',rfl,ho,hO⟩
 rcases ho with⟨rfl,rfl,rfl⟩ | ho
 ·subst hn
  have hz:hi≤w1.heap.size:=hg.1
  exact⟨((A',c'),lo,hi),rfl,Wrs.of hO,jev ((UD hg).agree fun b h1 h2=>hO.out.block b Om) (jjb hz hO.size),fun b hb=> .inl hb,rfl⟩
 ·exact⟨((A',c'),w1.heap.size,w'.heap.size),rfl,Wrs.of hO,jev ho (jih _),fun b hb=> .inr hb.1,rfl⟩
end Go.Proofs.YtpncbbcmoiiipaaGreat
namespace Go.Proofs.YtpncbbcmoiiipaaGreat
open Go Go.RowKit
def Z4 (e f:Leg) :Prop:=vh (lA e) (lA f)∨(lA e=lA f∧vh (lB e) (lB f))
instance (e f:Leg) :Decidable (Z4 e f) :=by unfold Z4;exact inferInstance
theorem U3 {e f:Leg} (h1:lA e=lA f) (h2:lB e=lB f) :e=f:=by
 rcases e with⟨a1,a2,a3,a4⟩
 rcases f with⟨b1,b2,b3,b4⟩
 simp only [lA,lB,Prod.mk.injEq] at h1 h2
 rw [h1.1,h1.2,h2.1,h2.2]
theorem yO {e f g:Leg} (h:Z4 e f) (h':Z4 f g) :Z4 e g:=by
 rcases h with h |⟨h1,h2⟩
 ·rcases h' with h' |⟨h3,_⟩
  ·exact .inl (Vx h h')
  ·exact .inl (h3▸h)
 ·rcases h' with h' |⟨h3,h4⟩
  ·exact .inl (h1▸h')
  ·exact .inr ⟨h1.trans h3,Vx h2 h4⟩
theorem vz (e:Leg) :¬Z4 e e:=by
 rintro(h |⟨_,h⟩) <;>exact kC _ h
theorem Mg (e f:Leg) :Z4 e f∨e=f∨Z4 f e:=by
 rcases U4 (lA e) (lA f) with h | h | h
 ·exact .inl (.inl h)
 ·rcases U4 (lB e) (lB f) with h' | h' | h'
  ·exact .inl (.inr ⟨h,h'⟩)
  ·exact .inr (.inl (U3 h h'))
  ·exact .inr (.inr (.inr ⟨h.symm,h'⟩))
 ·exact .inr (.inr (.inl h))
theorem Nw {e f g:Leg} (h:¬Z4 e f) (h':¬Z4 f g) :¬Z4 e g:=fun k=>by
 rcases Mg f g with c | c | c
 ·exact h' c
 ·exact h (c▸k)
 ·exact h (yO k c)
def jdR (l:List Leg) :Prop:=l.Pairwise Z4
theorem zv:∀ {l m:List Leg},jdR l→jdR m→(∀p,p∈l↔p∈m)→l=m
 | [],[],_,_,_=>rfl
 | [],q::m,_,_,h=>absurd ((h q).2 (by simp)) (by simp)
 | p::l,[],_,_,h=>absurd ((h p).1 (by simp)) (by simp)
 | p::l,q::m,hl,hm,h=>by
  have kl:=jiR.1 hl
  have km:=jiR.1 hm
  have e:p=q:=by
   rcases jir.1 ((h p).1 (by simp)) with e | h1
   ·exact e
   ·rcases jir.1 ((h q).2 (by simp)) with e | h2
    ·exact e.symm
    ·exact absurd (yO (kl.1 q h2) (km.1 p h1)) (vz p)
  subst e
  congr 1
  refine zv kl.2 km.2 fun r=> ?_
  constructor
  ·intro hr
   rcases jir.1 ((h r).1 (jiq _ hr)) with e | h1
   ·exact absurd (e▸kl.1 r hr) (vz _)
   ·exact h1
  ·intro hr
   rcases jir.1 ((h r).2 (jiq _ hr)) with e | h1
   ·exact absurd (e▸km.1 r hr) (vz _)
   ·exact h1
def QR:List Leg→List Leg
 | [] => []
 | [p] => [p]
 | p::q::l=>if p=q then QR (q::l) else p::QR (q::l)
theorem Zt:∀(l:List Leg) (r:Leg),r∈QR l↔r∈l
 | [],_=>Iff.rfl
 | [_],_=>Iff.rfl
 | p::q::l,r=>by
  unfold QR
  split
  ·rename_i e
   rw [Zt (q::l) r,e]
   simp
  ·rw [jir,Zt (q::l) r]
   simp
def Ed (l:List Leg) :Prop:=l.Pairwise fun p q=>¬Z4 q p
theorem Dq:∀ {l:List Leg},Ed l→jdR (QR l)
 | [],_=>List.Pairwise.nil
 | [p],_=>jjD _ _
 | p::q::l,h=>by
  have h1:=jiR.1 h
  have ih:=Dq (l:=q::l) h1.2
  unfold QR
  split
  ·exact ih
  ·rename_i hne
   refine jiR.2 ⟨fun r hr=> ?_,ih⟩
   rw [Zt] at hr
   have hpq:Z4 p q:=by
    rcases Mg p q with h2 | h2 | h2
    ·exact h2
    ·exact absurd h2 hne
    ·exact absurd h2 (h1.1 q (by simp))
   rcases jir.1 hr with e | hr
   ·rw [e];exact hpq
   ·have h3:= (jiR.1 h1.2).1 r hr
    rcases Mg q r with c | c | c
    ·exact yO hpq c
    ·exact c▸hpq
    ·exact absurd c h3
def Qn (e:Leg) :Leg:=⟨e.bx,e.b_y,e.ax,e.ay⟩
def Q5 (e:Leg) :Leg:=if vh (lB e) (lA e) then Qn e else e
def sg (e:Leg) :Int:=if vh (lB e) (lA e) then-1 else 1
theorem Ho (e:Leg) :Qn (Qn e) =e:=rfl
theorem jcA {e:Leg} (h:qN e) :qN (Q5 e) :=by
 unfold Q5
 split
 ·exact⟨h.2.2.1,h.2.2.2,h.1,h.2.1⟩
 ·exact h
theorem jeZ (e:Leg) :¬vh (lB (Q5 e)) (lA (Q5 e)) :=by
 unfold Q5
 split
 ·rename_i h
  intro k
  exact kC _ (Vx h k)
 ·assumption
theorem Mj {p e:Leg} (hp:¬vh (lB p) (lA p)) (hne:lA p≠lB p) :Q5 e=p↔e=p∨e=Qn p:=by
 unfold Q5
 constructor
 ·split
  ·intro h
   exact .inr (by rw [←h];rfl)
  ·exact .inl
 ·rintro(rfl | rfl)
  ·rw [if_neg hp]
  ·have:vh (lB (Qn p)) (lA (Qn p)) :=by
    rcases U4 (lA p) (lB p) with h | h | h
    ·exact h
    ·exact absurd h hne
    ·exact absurd h hp
   rw [if_pos this,Ho]
theorem CI {p:Leg} (hp:¬vh (lB p) (lA p)) :sg p=1:=if_neg hp
theorem jdh {p:Leg} (hp:¬vh (lB p) (lA p)) (hne:lA p≠lB p) :sg (Qn p) = -1:=by
 have:vh (lB (Qn p)) (lA (Qn p)) :=by
  rcases U4 (lA p) (lB p) with h | h | h
  ·exact h
  ·exact absurd h hne
  ·exact absurd h hp
 exact if_pos this
def sm {α:Type} (f:α→Int) :List α→Int
 | [] =>0
 | x::l=>f x+sm f l
theorem Kn {α:Type} (f:α→Int) :∀a b:List α,sm f (a++b) =sm f a+sm f b
 | [],b=>by simp [sm]
 | x::a,b=>by simp only [jiJ,sm,Kn f a b];omega
theorem JW {α:Type} {f g:α→Int} :∀ {l:List α},(∀x∈l,f x=g x)→sm f l=sm g l
 | [],_=>rfl
 | x::l,h=>by simp only [sm];rw [h x (by simp),JW fun y hy=>h y (jiq _ hy)]
theorem xM {α:Type} (f g:α→Int) :∀l:List α,sm (fun x=>f x+g x) l=sm f l+sm g l
 | [] =>rfl
 | x::l=>by simp only [sm,xM f g l];omega
theorem yu {α:Type} (f g:α→Int) :∀l:List α,sm (fun x=>f x- g x) l=sm f l- sm g l
 | [] =>rfl
 | x::l=>by simp only [sm,yu f g l];omega
theorem WU {α:Type} :∀l:List α,sm (fun _=> (0:Int)) l=0
 | [] =>rfl
 | x::l=>by simp only [sm,WU l];rfl
theorem jf1 {α:Type} {f:α→Int} :∀ {l:List α},(∀x∈l,-1≤f x∧f x≤1)→-(l.length:Int)≤sm f l∧sm f l≤l.length
 | [],_=>by simp [sm]
 | x::l,h=>by
  have h1:=h x (by simp)
  have h2:=jf1 (l:=l) fun y hy=>h y (jiq _ hy)
  simp only [sm,jim]
  omega
structure Nt where
 e:Leg
 one:Int
 two:Int
 l1:Int
 l2:Int
def qq (x:Nt) :List Value:=jZ x.e++ [.int .i64 x.one, .int .i64 x.two, .int .i64 x.l1, .int .i64 x.l2]
def zX (e:Leg) :Nt:=⟨e,0,0,0,0⟩
def nt (l:List Nt) (k:Nat) :Nt:=l.getD k (zX ⟨0,0,0,0⟩)
theorem zw {l:List Nt} {k:Nat} (h:k<l.length) :l[k] =nt l k:=by simp [nt,List.getD,List.getElem?_eq_getElem h]
def wC (s:Bool) (n:Int) (x:Nt) :Nt:=if s=true then {x with two:=x.two+n} else {x with one:=x.one+n}
theorem Xe (s:Bool) (n:Int) (x:Nt) : (wC s n x).e=x.e:=by unfold wC;split<;>rfl
def WC (s:Bool) (e:Leg) :List Nt→List Nt
 | [] => [wC s (sg e) (zX (Q5 e))]
 | x::l=>if Z4 x.e (Q5 e) then x::WC s e l else if x.e=Q5 e then wC s (sg e) x::l else wC s (sg e) (zX (Q5 e)) ::x::l
def GQ (l:List Nt) (k:Nat) (e:Leg) :List Nt:=l.take k++zX e::l.drop k
theorem Rk {s:Bool} {e:Leg} :∀ {l:List Nt} {k:Nat},k≤l.length→(∀j,j<k→Z4 (nt l j).e (Q5 e))→(k<l.length→¬Z4 (nt l k).e (Q5 e)∧(nt l k).e≠Q5 e)→
  WC s e l= (GQ l k (Q5 e)).set k (wC s (sg e) (nt (GQ l k (Q5 e)) k))
 | [],k,hk,_,_=>by
  have:k=0:=by simpa using hk
  subst this
  rfl
 | x::l,0,_,_,h=>by
  have:¬Z4 x.e (Q5 e)∧x.e≠Q5 e:=h (by simp)
  rw [WC,if_neg this.1,if_neg this.2]
  rfl
 | x::l,k+1,hk,h1,h2=>by
  have h0:Z4 x.e (Q5 e) :=h1 0 Om
  rw [WC,if_pos h0,Rk (l:=l) (k:=k) (by simpa using hk) (fun j hj=>h1 (j+1) Om) (fun hk'=>h2 (by simpa using hk'))]
  rfl
theorem Rl {s:Bool} {e:Leg} :∀ {l:List Nt} {k:Nat},k<l.length→(∀j,j<k→Z4 (nt l j).e (Q5 e))→(nt l k).e=Q5 e→
  WC s e l=l.set k (wC s (sg e) (nt l k))
 | [],k,hk,_,_=>absurd hk (by simp)
 | x::l,0,_,_,h=>by
  have h':x.e=Q5 e:=h
  rw [WC,if_neg (by rw [h'];exact vz _),if_pos h']
  rfl
 | x::l,k+1,hk,h1,h2=>by
  have h0:Z4 x.e (Q5 e) :=h1 0 Om
  rw [WC,if_pos h0,Rl (l:=l) (k:=k) (by simpa using hk) (fun j hj=>h1 (j+1) Om) h2]
  rfl
theorem MB {s:Bool} {e q:Leg} :∀ {l:List Nt},(∃x∈WC s e l,x.e=q)↔(∃x∈l,x.e=q)∨q=Q5 e
 | [] =>by simp [WC,Xe,zX,eq_comm]
 | x::l=>by
  have ih:=MB (s:=s) (e:=e) (q:=q) (l:=l)
  unfold WC
  split
  ·simp only [jir,exists_eq_or_imp,ih,or_assoc]
  ·split
   ·rename_i h
    simp only [jir,exists_eq_or_imp,Xe]
    constructor
    ·exact .inl
    ·rintro(h1 | h1)
     ·exact h1
     ·exact .inl (h1▸h)
   ·simp only [jir,exists_eq_or_imp,Xe]
    constructor
    ·rintro(h1 | h1)
     ·exact .inr h1.symm
     ·exact .inl h1
    ·rintro(h1 | h1)
     ·exact .inr h1
     ·exact .inl h1.symm
def x5 (l:List Nt) :Prop:=l.Pairwise fun x y=>Z4 x.e y.e
theorem Ri {s:Bool} {e:Leg} :∀ {l:List Nt},x5 l→x5 (WC s e l)
 | [],_=>jjD _ _
 | x::l,h=>by
  have h1:=jiR.1 h
  unfold WC
  split
  ·rename_i hx
   refine jiR.2 ⟨fun y hy=> ?_,Ri h1.2⟩
   rcases(MB (q:=y.e)).1 ⟨y,hy,rfl⟩ with⟨z,hz,e1⟩ | e1
   ·rw [←e1];exact h1.1 z hz
   ·rw [e1];exact hx
  ·rename_i hx
   split
   ·refine jiR.2 ⟨fun y hy=> ?_,h1.2⟩
    rw [Xe];exact h1.1 y hy
   ·rename_i hne
    have hlt:Z4 (Q5 e) x.e:=by
     rcases Mg (Q5 e) x.e with c | c | c
     ·exact c
     ·exact absurd c.symm hne
     ·exact absurd c hx
    refine jiR.2 ⟨fun y hy=> ?_,h⟩
    rw [Xe]
    rcases jir.1 hy with c | hy
    ·rw [c];exact hlt
    ·exact yO hlt (h1.1 y hy)
def VP (s:Bool) (x:Nt) :Int:=if s=true then x.two else x.one
def wS (s:Bool) (F:Leg→Int) (l:List Nt) :Int:=sm (fun x=>VP s x*F x.e) l
theorem jaR {s t:Bool} {e:Leg} (F:Leg→Int) :∀(l:List Nt),wS t F (WC s e l) =wS t F l+ (if s=t then sg e*F (Q5 e) else 0)
 | [] =>by
  cases s<;>cases t<;>simp [wS,WC,sm,VP,wC,zX]
 | x::l=>by
  have ih:=jaR (s:=s) (t:=t) (e:=e) F l
  unfold wS at ih⊢
  unfold WC
  split
  ·simp only [sm,ih];omega
  ·split
   ·rename_i h
    cases s<;>cases t<;>simp [sm,VP,wC,h] <;>grind
   ·cases s<;>cases t<;>simp [sm,VP,wC,zX] <;>grind
def Qd (s:Bool) (es:List Leg) (l:List Nt) :List Nt:=es.foldl (fun l e=>WC s e l) l
theorem wY {s:Bool} :∀ {es:List Leg} {l:List Nt},x5 l→x5 (Qd s es l)
 | [],_,h=>h
 | e::es,l,h=>wY (es:=es) (Ri (e:=e) h)
theorem wZ {s:Bool} {q:Leg} :∀ {es:List Leg} {l:List Nt},(∃x∈Qd s es l,x.e=q)↔(∃x∈l,x.e=q)∨∃e∈es,q=Q5 e
 | [],l=>by simp [Qd]
 | e::es,l=>by
  have:=wZ (s:=s) (q:=q) (es:=es) (l:=WC s e l)
  unfold Qd at this⊢
  rw [jjd,this,MB]
  simp only [jir,exists_eq_or_imp,or_assoc]
theorem zq {s t:Bool} (F:Leg→Int) :∀(es:List Leg) (l:List Nt),wS t F (Qd s es l) =wS t F l+ (if s=t then sm (fun e=>sg e*F (Q5 e)) es else 0)
 | [],l=>by simp [Qd,sm]
 | e::es,l=>by
  have:=zq (s:=s) (t:=t) F es (WC s e l)
  unfold Qd at this⊢
  rw [jjd,this,jaR]
  split<;> (try simp only [sm]) <;>omega
theorem Rj {s:Bool} {e:Leg} :∀(l:List Nt),(WC s e l).length≤l.length+1
 | [] =>by simp [WC]
 | x::l=>by
  have:=Rj (s:=s) (e:=e) l
  unfold WC
  split
  ·simp only [jim];omega
  ·split<;>simp only [jim] <;>omega
def ZR (x:Int) :Int:=if x<0 then-x else x
theorem FQ (x:Int) :0≤ZR x:=by unfold ZR;split<;>omega
theorem PO (x:Int) : -ZR x≤x∧x≤ZR x:=by unfold ZR;split<;>omega
def aS (s:Bool) (l:List Nt) :Int:=sm (fun x=>ZR (VP s x)) l
theorem Tk (e:Leg) :sg e=1∨sg e= -1:=by unfold sg;split<;>simp
theorem jaQ {s t:Bool} {e:Leg} :∀(l:List Nt),aS t (WC s e l)≤aS t l+ (if s=t then 1 else 0)
 | [] =>by
  have:=Tk e
  cases s<;>cases t<;>simp [aS,WC,sm,VP,wC,zX,ZR] <;>omega
 | x::l=>by
  have ih:=jaQ (s:=s) (t:=t) (e:=e) l
  have:=Tk e
  unfold aS at ih⊢
  unfold WC
  split
  ·simp only [sm];omega
  ·split
   ·cases s<;>cases t<;>simp [sm,VP,wC,ZR] <;> (repeat' split) <;>omega
   ·cases s<;>cases t<;>simp [sm,VP,wC,zX,ZR] <;> (repeat' split) <;>omega
theorem zp {s t:Bool} :∀(es:List Leg) (l:List Nt),aS t (Qd s es l)≤aS t l+ (if s=t then(es.length:Int) else 0)
 | [],l=>by simp [Qd]
 | e::es,l=>by
  have h1:=zp (s:=s) (t:=t) es (WC s e l)
  have h2:=jaQ (s:=s) (t:=t) (e:=e) l
  unfold Qd at h1⊢
  rw [jjd]
  split at h1<;>split at h2<;>simp only [jim] <;> (try split) <;>simp_all<;>omega
structure Ne where
 e:Leg
 net:Int
 left:Int
 right:Int
def vC (p:Leg) :Int:=p.ax+p.bx
def KU (p:Leg) :Int:=p.ay+p.b_y
def Qe (es:List Leg) (p:Leg) :Int:=sm (fun e=>if Q5 e=p then sg e else 0) es
def wy (es:List Leg) (p:Leg) :Int:=sm (fun e=>if Q5 e=p then 0 else Qw (Q2 true e) (vC p) (KU p)) es
def kX (es:List Leg) (p:Leg) :Ne:=if p.ay=p.b_y then⟨p,Qe es p,wy es p,wy es p- Qe es p⟩ else⟨p,Qe es p,wy es p+Qe es p,wy es p⟩
def ZW (e:Leg) :Leg:=⟨-e.ay,e.ax,-e.b_y,e.bx⟩
def BD (p q:Leg) :Int:=if p.ay=p.b_y then Qw (ZW (Q2 true q)) (-(KU p)) (vC p) else Qw (Q2 true q) (vC p) (KU p)
def QE (s:Bool) (l:List Nt) (k:Nat) :Nat→Int
 | 0=>0
 | i+1=>QE s l k i+ (if i=k then 0 else VP s (nt l i) *BD (nt l k).e (nt l i).e)
theorem jdK (l:Leg) (x y:Int) : -1≤Qw l x y∧Qw l x y≤1:=by unfold Qw;split<;> (try split) <;>omega
theorem jd3 (p q:Leg) : -1≤BD p q∧BD p q≤1:=by unfold BD;split<;>exact jdK _ _ _
theorem jcs {c g:Int} (h: -1≤g∧g≤1) : -ZR c≤c*g∧c*g≤ZR c:=by
 have h1:=PO c
 have:g= -1∨g=0∨g=1:=by omega
 rcases this with rfl | rfl | rfl<;>simp<;>omega
theorem Mr {α:Type} (f:α→Int) {l:List α} {k:Nat} (h:k<l.length) :sm f (l.take (k+1)) =sm f (l.take k) +f l[k] :=by
 rw [jin h,Kn]
 simp [sm]
theorem jdl {α:Type} {f:α→Int} (h:∀x,0≤f x) :∀l:List α,0≤sm f l
 | [] =>jj8 _
 | x::l=>by
  have:=h x
  have:=jdl h l
  simp only [sm]
  omega
theorem NO {α:Type} {f:α→Int} (h:∀x,0≤f x) (l:List α) (k:Nat) :sm f (l.take k)≤sm f l:=by
 have e:sm f l=sm f (l.take k) +sm f (l.drop k) :=by rw [←Kn,jiw]
 have:=jdl h (l.drop k)
 omega
theorem Dk {s:Bool} {l:List Nt} {k:Nat} :∀i,i≤l.length→-sm (fun x=>ZR (VP s x)) (l.take i)≤QE s l k i∧QE s l k i≤sm (fun x=>ZR (VP s x)) (l.take i)
 | 0,_=>by simp [QE,sm]
 | i+1,h=>by
  have h1:=Dk (s:=s) (l:=l) (k:=k) i Om
  have h2:=jcs (c:=VP s (nt l i)) (jd3 (nt l k).e (nt l i).e)
  have h3:=FQ (VP s (nt l i))
  rw [Mr _ Om,zw Om,QE]
  split<;>omega
theorem yC {s:Bool} {l:List Nt} {k i:Nat} (h:i≤l.length) : -aS s l≤QE s l k i∧QE s l k i≤aS s l:=by
 have h1:=Dk (s:=s) (l:=l) (k:=k) i h
 have h2:=NO (f:=fun x=>ZR (VP s x)) (fun x=>FQ _) l i
 unfold aS
 omega
theorem GZ {l:List Nt} {k:Nat} (h:k<l.length) :nt l k∈l:=by rw [←zw h];exact jis h
theorem jaW {l:List Nt} (h:x5 l) {i k:Nat} (hi:i<l.length) (hk:k<l.length) (he: (nt l i).e= (nt l k).e) :i=k:=by
 rcases Nat.lt_trichotomy i k with c | c | c
 ·have:=jjl.1 h i k hi hk c
  rw [zw hi,zw hk,he] at this
  exact absurd this (vz _)
 ·exact c
 ·have:=jjl.1 h k i hk hi c
  rw [zw hi,zw hk,he] at this
  exact absurd this (vz _)
theorem Ro {s:Bool} {l:List Nt} {k:Nat} (ha:x5 l) (hk:k<l.length) :∀i,i≤l.length→QE s l k i=sm (fun x=>VP s x* (if x.e= (nt l k).e then 0 else BD (nt l k).e x.e)) (l.take i)
 | 0,_=>rfl
 | i+1,h=>by
  rw [Mr _ Om,zw Om,QE,Ro ha hk i Om]
  congr 1
  by_cases e:i=k
  ·subst e
   simp
  ·rw [if_neg e,if_neg fun he=>e (jaW ha Om hk he)]
theorem El {s:Bool} {l:List Nt} {k:Nat} (ha:x5 l) (hk:k<l.length) :QE s l k l.length=wS s (fun q=>if q= (nt l k).e then 0 else BD (nt l k).e q) l:=by
 rw [Ro ha hk _ (jih _),jiX]
 rfl
theorem C3 {s:Bool} {p:Leg} :∀ {l:List Nt},(∀x∈l,x.e≠p)→wS s (fun q=>if q=p then 1 else 0) l=0
 | [],_=>rfl
 | x::l,h=>by
  have:=C3 (s:=s) (l:=l) fun y hy=>h y (jiq _ hy)
  unfold wS at*
  simp only [sm,this]
  rw [if_neg (h x (by simp))]
  simp
theorem jf5 {s:Bool} :∀ {l:List Nt} {x:Nt},x5 l→x∈l→wS s (fun q=>if q=x.e then 1 else 0) l=VP s x
 | y::l,x,h,hx=>by
  have h1:=jiR.1 h
  rcases jir.1 hx with e | hx
  ·subst e
   have:=C3 (s:=s) (p:=x.e) (l:=l) fun z hz e=>vz _ (e▸h1.1 z hz)
   unfold wS at*
   simp only [sm,this,if_true]
   omega
  ·have:=jf5 (s:=s) h1.2 hx
   have hne:y.e≠x.e:=fun e=>vz _ (e▸h1.1 x hx)
   unfold wS at*
   simp only [sm,this,if_neg hne]
   omega
theorem UT (l:Leg) (x y:Int) :Qw l x y=if(l.ay≤y∧y<l.b_y)∧0<Q8 l.ax l.ay l.bx l.b_y x y then 1 else if(l.b_y≤y∧y<l.ay)∧Q8 l.ax l.ay l.bx l.b_y x y<0 then-1 else 0:=by
 unfold Qw Fq ud
 simp only [jig,decide_eq_true_eq]
theorem Ye (e:Leg) (x y:Int) :Qw (Qn e) x y= -Qw e x y:=by
 have ht:Q8 (Qn e).ax (Qn e).ay (Qn e).bx (Qn e).b_y x y= -Q8 e.ax e.ay e.bx e.b_y x y:=by simp only [Qn,Q8];grind
 rw [UT,UT,ht]
 generalize Q8 e.ax e.ay e.bx e.b_y x y=t
 simp only [Qn]
 repeat' split
 all_goals omega
theorem jem (e:Leg) (x y:Int) :sg e*Qw (Q2 true (Q5 e)) x y=Qw (Q2 true e) x y:=by
 unfold Q5 sg
 split
 ·rw [show Q2 true (Qn e) =Qn (Q2 true e) from rfl,Ye];omega
 ·omega
theorem jfl (e:Leg) (x y:Int) :sg e*Qw (ZW (Q2 true (Q5 e))) x y=Qw (ZW (Q2 true e)) x y:=by
 unfold Q5 sg
 split
 ·rw [show ZW (Q2 true (Qn e)) =Qn (ZW (Q2 true e)) from rfl,Ye];omega
 ·omega
def qu (x y mx my:Int) :Int:=if mx<x∧y≤my then 1 else 0
theorem ZK {a b p:Int} (h:p=a*b) : (0<a∧0<b∧0<p)∨(0<a∧b<0∧p<0)∨(a<0∧0<b∧p<0)∨(a<0∧b<0∧0<p)∨(a=0∧p=0)∨(b=0∧p=0) :=by
 subst h
 rcases ji1 a 0 with ha | ha | ha
 ·rcases ji1 b 0 with hb | hb | hb
  ·exact .inr (.inr (.inr (.inl ⟨ha,hb,Int.mul_pos_of_neg_of_neg ha hb⟩)))
  ·subst hb;simp
  ·exact .inr (.inr (.inl ⟨ha,hb,jjh ha hb⟩))
 ·subst ha;simp
 ·rcases ji1 b 0 with hb | hb | hb
  ·exact .inr (.inl ⟨ha,hb,jjA ha hb⟩)
  ·subst hb;simp
  ·exact .inl ⟨ha,hb,jiU ha hb⟩
theorem jfB {a1 a2 b1 b2 t:Int} (ht:t=a1*b2- a2*b1) (hno:¬(t=0∧(min a1 b1≤0∧0≤max a1 b1)∧min a2 b2≤0∧0≤max a2 b2)) :
  (if(a2≤0∧0<b2)∧0<t then(1:Int) else if(b2≤0∧0<a2)∧t<0 then-1 else 0) - (if(a1≤0∧0<b1)∧0<t then(1:Int) else if(b1≤0∧0<a1)∧t<0 then-1 else 0)
   = (if 0<a1∧a2≤0 then 1 else 0) - (if 0<b1∧b2≤0 then 1 else 0) :=by
 have h1:=ZK (a:=a1) (b:=b2) rfl
 have h2:=ZK (a:=a2) (b:=b1) rfl
 generalize a1*b2=p at*
 generalize a2*b1=q at*
 subst ht
 rcases h1 with h1 | h1 | h1 | h1 | h1 | h1<;>rcases h2 with h2 | h2 | h2 | h2 | h2 | h2<;> (repeat' split) <;>omega
theorem jdx {e:Leg} {mx my:Int} (hno:¬(Q8 e.ax e.ay e.bx e.b_y mx my=0∧(min e.ax e.bx≤mx∧mx≤max e.ax e.bx)∧min e.ay e.b_y≤my∧my≤max e.ay e.b_y)) :
  Qw e mx my- Qw (ZW e) (-my) mx=qu e.ax e.ay mx my- qu e.bx e.b_y mx my:=by
 have hr:Q8 (ZW e).ax (ZW e).ay (ZW e).bx (ZW e).b_y (-my) mx=Q8 e.ax e.ay e.bx e.b_y mx my:=by simp only [ZW,Q8];grind
 have ht:Q8 e.ax e.ay e.bx e.b_y mx my= (e.ax- mx) * (e.b_y- my) - (e.ay- my) * (e.bx- mx) :=by simp only [Q8];grind
 have h:=jfB ht (fun k=>hno ⟨k.1,by omega,by omega⟩)
 rw [UT,UT,hr]
 unfold qu
 generalize Q8 e.ax e.ay e.bx e.b_y mx my=t at*
 simp only [ZW]
 have e1: (e.ay≤my∧my<e.b_y)∧0<t↔(e.ay- my≤0∧0<e.b_y- my)∧0<t:=by omega
 have e2: (e.b_y≤my∧my<e.ay)∧t<0↔(e.b_y- my≤0∧0<e.ay- my)∧t<0:=by omega
 have e3: (e.ax≤mx∧mx<e.bx)∧0<t↔(e.ax- mx≤0∧0<e.bx- mx)∧0<t:=by omega
 have e4: (e.bx≤mx∧mx<e.ax)∧t<0↔(e.bx- mx≤0∧0<e.ax- mx)∧t<0:=by omega
 have e5:mx<e.ax∧e.ay≤my↔0<e.ax- mx∧e.ay- my≤0:=by omega
 have e6:mx<e.bx∧e.b_y≤my↔0<e.bx- mx∧e.b_y- my≤0:=by omega
 simp only [e1,e2,e3,e4,e5,e6]
 exact h
end Go.Proofs.YtpncbbcmoiiipaaGreat
