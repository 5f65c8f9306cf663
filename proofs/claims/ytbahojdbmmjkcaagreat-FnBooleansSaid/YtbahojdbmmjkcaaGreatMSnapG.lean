import Derived.Test.YtbahojdbmmjkcaaGreatMRounds
import Derived.Test.YtbahojdbmmjkcaaGreatMHotLaw
import Derived.Test.YtbahojdbmmjkcaaGreatMCross
import Derived.Test.YtbahojdbmmjkcaaGreatMOwn
set_option linter.unusedVariables false
set_option linter.unusedSimpArgs false
namespace Go.Proofs.YtbahojdbmmjkcaaGreat
open Go Go.RowKit
variable {A:Option Addr} {V:Option Addr→Nat→Value} {args:Array Value} {hot:List Pn} {rs ss:List jO}
set_option maxRecDepth 100000
set_option maxHeartbeats 4000000
def OD (E:List Leg) :List Pn:=kJ (yf E E.length)
theorem IP {a b c d:Pn} (h:Qd a b c d=2) :qg a b c d=true:=by
 unfold Qd at h
 split at h
 ·split at h
  ·rename_i h1;exact h1
  ·omega
 ·split at h<;>omega
theorem XY {E:List Leg} :∀i,i≤E.length→∀k,k<i→lA (lg E k)∈yf E i∧lB (lg E k)∈yf E i
 | 0,_,k,hk=>absurd hk Om
 | i+1,hi,k,hk=>by
  rw [yf]
  rcases jkq (show k≤i by omega) with h | rfl
  ·obtain ⟨h1,h2⟩ :=XY (E:=E) i Om k h
   exact⟨jka _ (jka _ h1),jka _ (jka _ h2)⟩
  ·exact⟨jka _ (jkw _ (by simp)),jka _ (jkw _ (by simp))⟩
theorem jcj {E:List Leg} (hok:∀l∈E,qM l) {i:Nat} (hi:i<E.length) :∀k,k≤i→∀p∈cz E i k,bd2 p
 | 0,_,p,hp=>by simp [cz] at hp
 | k+1,hk,p,hp=>by
  rw [cz] at hp
  rcases jjz.1 hp with h | h
  ·exact jcj hok hi k Om p h
  ·split at h
   ·rename_i hm
    rw [jjp.1 h]
    exact(jah (wP (kC hok Om)) (WM (kC hok Om)) (IP hm)).1
   ·simp at h
theorem Is {E:List Leg} (hok:∀l∈E,qM l) :∀i,i≤E.length→∀p∈yf E i,bd2 p
 | 0,_,p,hp=>by simp [yf] at hp
 | i+1,hi,p,hp=>by
  rw [yf] at hp
  rcases jjz.1 hp with h | h
  ·rcases jjz.1 h with h | h
   ·exact Is hok i Om p h
   ·simp only [jjw,jj8,or_false] at h
    rcases h with rfl | rfl
    ·exact wP (kC hok Om)
    ·exact WM (kC hok Om)
  ·exact jcj hok Om i (jjm _) p h
theorem DT {l:List Pn} (h:Asc l) :l.Nodup:=List.Pairwise.imp (fun {a b} (hab:vG a b) (e:a=b) =>kD a (by rw [←e] at hab;exact hab)) h
theorem Zo {E:List Leg} {k:Nat} (hk:k<E.length) :lg E k=E[k] :=by simp [lg,List.getD,hk]
theorem Oe {rs:List jO} :∀k,k≤rs.length→cnt (vg rs k) = (qE rs k).length
 | 0,_=>rfl
 | k+1,hk=>by
  have ih:=Oe (rs:=rs) k Om
  have e: (qE rs (k+1)).length= (qE rs k).length+ (JZ (rg rs k)).length:=jjk
  have e2: (KY (rg rs k)).length= (JZ (rg rs k)).length:=jjB ..
  by_cases h:0< (KY (rg rs k)).length
  ·rw [YE Om h,e,←ih]
   simp [cnt,e2]
  ·rw [ZR Om h,e,←ih]
   omega
theorem yi (hr:Jp rs=true) :∀r∈JO rs,bare r:=fun r h=>by
 obtain ⟨h0,q,hq,rfl⟩ :=xF h
 obtain ⟨i,hi,e⟩ :=jj0 hq
 have:=qW (kE hr hi)
 rw [wu hi] at e
 rw [e] at this
 exact Fh this.1 h0
theorem jfo {xs:List Pn} (h:Qz xs=true) :∀p∈KY xs,wW p.1 p.2=true:=fun p hp=>by
 obtain ⟨l,hl,rfl⟩ :=jjx.1 hp
 exact Wu (wP (YM (WO h).2.2 _ (jjm _) l hl))
theorem UV (hr:Jp rs=true) :Jp (JO rs) =true:=by
 have h40:=vx hr
 have hl:=xE rs rs.length
 have hcnt: (jt (JO rs)).length≤400:=by
  rw [XR (yi hr)]
  have:=Oe (rs:=rs) rs.length (jjm _)
  have h4: (jt rs).length≤400:=by simp [Jp] at hr;omega
  unfold jt at h4
  unfold JO
  omega
 have hall: (JO rs).all Qz=true:=jkj.2 fun r h=>by
  have hs:=xU hr h
  obtain ⟨h0,q,hq,rfl⟩ :=xF h
  obtain ⟨i,hi,e⟩ :=jj0 hq
  have hb:=kE hr hi
  rw [wu hi] at e
  rw [e] at hb
  unfold Qz ZX
  rw [decide_eq_true (show(1:Int)≤((KY q).length:Int) by omega),decide_eq_true (show((KY q).length:Int)≤400 by omega)]
  exact jkj.2 fun p hp=>jfo hb p hp
 rw [U9 (by unfold JO;omega) hall]
 exact decide_eq_true hcnt
structure HotOk (hot:List Pn) (ss:List jO) :Prop where
 reg:Jp ss=true
 ok:∀p∈hot,wW p.1 p.2=true
 asc:Asc hot
 nd:hot.Nodup
 len:hot.length≤1048576
 bare:bareG hot ss
theorem DS {rs:List jO} {j:Nat} :∀k,j<k→∀l∈JZ (rg rs j),l∈qE rs k
 | 0,h,_,_=>absurd h Om
 | k+1,h,l,hl=>by
  show l∈qE rs k++JZ (rg rs k)
  rcases jkq (show j≤k by omega) with h1 | rfl
  ·exact jka _ (DS k h1 l hl)
  ·exact jkw _ hl
theorem jio (hr:Jp ss=true) (hb:∀r∈ss,bare r) :HotOk (OD (jt ss)) ss:=by
 have hok:=GB hr
 have h4: (jt ss).length≤400:=by simp [Jp] at hr;omega
 have hends:∀l∈jt ss,lA l∈OD (jt ss) :=fun l hl=>by
  obtain ⟨k,hk,e⟩ :=jj0 hl
  have:= (XY (E:=jt ss) _ (jjm _) k hk).1
  rw [Zo hk,e] at this
  exact(Vp _ _).2 this
 refine⟨hr,fun p hp=>Wu (Is hok _ (jjm _) p ((Vp _ _).1 hp)),WD _,DT (WD _),?_,fun r h=>⟨hb r h,fun p hp=> ?_⟩⟩
 ·have h1:=YX (yf (jt ss) (jt ss).length)
  have h2:=YN (jt ss) (jt ss).length
  have h3: (jt ss).length* ((jt ss).length+2)≤400*402:=jkH h4 Om
  unfold OD
  omega
 ·obtain ⟨j,hj,e⟩ :=jj0 h
  rw [wu hj] at e
  have hbr:=hb r h
  have hp2:p∈(JZ r).map lA:=by
   rw [QC hbr,jk6]
   have e2: (kN r).map (lA∘Nn) = (kN r).map (·.1) :=rfl
   rw [e2,vX]
   exact hp
  obtain ⟨l,hl,rfl⟩ :=jjx.1 hp2
  exact hends l (DS (rs:=ss) _ hj l (by rw [e];exact hl))
def Mx (rs:List jO) :List Pn:=OD (jt (JO rs))
theorem jiH (hr:Jp rs=true) :HotOk (Mx rs) (JO rs) :=jio (UV hr) (yi hr)
def sgR (rs:List jO) :List jO:=if Jp rs=true then LS (Mx rs) (JO rs) else []
def sgN (rs:List jO) :Int:=if Jp rs=true then Rl (Mx rs) (JO rs) else 0
def sgC (rs:List jO) :Int:=if Jp rs=true then(if zL (Mx rs) (JO rs) =true then 0 else 5) else 1
theorem jiG (h:Jp rs=false) :sgR rs= []∧sgN rs=0∧sgC rs=1:=by simp [sgR,sgN,sgC,h]
theorem PF (h:Jp rs=true) :sgR rs=LS (Mx rs) (JO rs)∧sgN rs=Rl (Mx rs) (JO rs)∧sgC rs= (if zL (Mx rs) (JO rs) =true then 0 else 5) :=by simp [sgR,sgN,sgC,h]
theorem jiN (h:zL hot rs=false) :LS hot rs= []∧Rl hot rs=0:=by
 cases hs:yN hot rs with
 | none=>exact⟨(xa hs).1,(xa hs).2.1⟩
 | some x=>simp [zL,hs] at h
theorem FP {hot:List Pn} (hnd:hot.Nodup) :∀(f:Nat) {rs ss:List jO} {r q:Nat},Jp rs=true→bareG hot rs→v6 hot f rs r=some (ss,q)→Jp ss=true
 | 0,_,_,_,_,_,_,h=>by cases h
 | f+1,rs,ss,r,q,hr,hb,h=>by
  rw [v6] at h
  split at h
  ·cases h
  ·rename_i h1
   split at h
   ·injection h with h
    injection h with h2 h3
    exact h2▸hr
   ·exact FP hnd f (by simpa using h1) (hb.snap hnd) h
theorem jeh (hnd:hot.Nodup) {r:Nat} (hr:Jp rs=true) (hb:bareG hot rs) (h:yN hot rs=some (ss,r)) :Jp ss=true:=FP hnd _ hr hb h
theorem jcx {P:Program} {f:FuncId} {w1:World} {n lo hi:Nat} {c:Nat} (hg: (kI n ss lo hi A).P w1) (hn:ss.length=n) (h:Calls P f args w1 fun e w'=>∃A' c',e= .returned (V A' c')∧((A'=A∧c'=c∧rs=ss)∨OwnG w1.heap.size w'.heap.size w' A' rs.length rs)∧Over w1 w') :
  Calls P f args w1 fun e w'=>∃x: (Option Addr×Nat)×Nat×Nat,e= .returned (V x.1.1 x.1.2)∧Wrs (kI n ss lo hi A).F w1 w'∧(kI rs.length rs x.2.1 x.2.2 x.1.1).P w'∧(∀b,(kI rs.length rs x.2.1 x.2.2 x.1.1).F b→(kI n ss lo hi A).F b∨w1.heap.size≤b)∧(kI rs.length rs x.2.1 x.2.2 x.1.1).B=0:=by
 refine h.mono ?_
 rintro e w' ⟨A',c',rfl,ho,hO⟩
 rcases ho with⟨rfl,rfl,rfl⟩ | ho
 ·subst hn
  have hz:hi≤w1.heap.size:=hg.1
  exact⟨((A',c'),lo,hi),rfl,Wrs.of hO,jfh ((UE hg).agree fun b h1 h2=>hO.out.block b Om) (jkh hz hO.size),fun b hb=> .inl hb,rfl⟩
 ·exact⟨((A',c'),w1.heap.size,w'.heap.size),rfl,Wrs.of hO,jfh ho (jjm _),fun b hb=> .inr hb.1,rfl⟩
theorem Xn (A:Option Addr) (n c:Nat) (rs:List jO) (w:World) (h:Rings w A n rs) (ht: (total rs:Int)≤1048577) :
  Calls Tryz.prog 10 #[qr A n c] w fun e w'=>∃A' c',e= .returned (.tuple #[qr A' (sgR rs).length c', .int .i64 (sgN rs), .int .i64 (sgC rs)])∧OwnG w.heap.size w'.heap.size w' A' (sgR rs).length (sgR rs)∧Over w w':=by
 have hl:=h.1
 refine j6 (m:=25) (Tryz.func10) J J (lb J) ?_;refine S3 ?_;refine aX (fun b1=> ?_);refine N1 ?_;refine aL (fun b2=> ?_);refine N6 ?_;refine a9 (jM kw J J (fun w1 hs=>UR _ _ A n c rs w1 (qi (k:=0) J J w1 hs) (JT (hs.cel (k:=0) J)) (h.over hs.fin) ht)) ?_;refine S2 ?_;refine cZ (fun c1=> ?_) (fun c1=> ?_)
 ·refine S2 ?_;refine a9 (JR J J (J9)) ?_;refine S7 ?_;refine YD J (J8 (k:=1) J jv J J) (.tmp J) (.tmp J) ?_
  intro w' hs
  obtain ⟨e1,e2,e3⟩ :=jiG c1
  exact⟨none,0,by rw [e1,e2,e3];rfl,by rw [e1];exact OwnG.nil none,hs.fin⟩
 ·have hr:Jp rs=true:=c1
  obtain ⟨e1,e2,e3⟩ :=PF hr
  have hk:=jiH hr
  have hsm:=smallR.of hk.reg
  have hok:=GB hk.reg
  have h4:=YY hk.reg
  have hst:=hsm.total
  refine S5 ?_;refine JU Ul (X:= (Option Addr×Nat)×Nat×Nat) (v:=fun x=>qr x.1.1 (JO rs).length x.1.2) (r:=fun x=>kI (JO rs).length (JO rs) x.2.1 x.2.2 x.1.1) (H:=fun _=>True) J J J (lb J) (fun w1 hs=>Q6 (Zn _ _ A n c rs w1 (qi (k:=0) J J w1 hs) (JT (hs.cel (k:=0) J)) (h.over hs.fin) hr)) ?_
  rintro⟨⟨gA,gc⟩,glo,ghi⟩ -
  refine N1 ?_;refine aL (fun b3=> ?_);refine N6 ?_;refine JU K3 (v:=fun x:Option Addr×Nat=> .slice x.1 (jt (JO rs)).length x.2) (r:=fun x=>J3 0 147 4 (jt (JO rs)).length ((jt (JO rs)).flatMap Ji) x) (H:=fun _=>True) J J J (lb J) (fun w1 hs=>Qf ((U2 _ _ gA _ gc (JO rs) w1 (qi (k:=3) J J w1 hs) (JT (hs.cel (k:=3) J)) (UE (hs.all 2 _ J).1).rings Om).mono fun e w' ⟨v,h1,_,h2,h3⟩ =>⟨v,h1,h2,h3⟩)) ?_
  rintro⟨eA,ec⟩ -
  refine N1 ?_;refine JU Zu (v:=fun x:Option Addr×Nat=> .slice x.1 (Mx rs).length x.2) (r:=fun x=>J3 0 28 2 (Mx rs).length ((Mx rs).flatMap Jr) x) (H:=fun _=>True) J J J (lb J) (fun w1 hs=>Qf (ON eA _ ec (jt (JO rs)) w1 (Vr (k:=4) (x:= (eA,ec)) (ls:=jt (JO rs)) J J w1 hs) hok h4)) ?_
  rintro⟨pA,pc⟩ -
  refine N1 ?_;refine JU W7 (X:= (Option Addr×Nat)×Nat×Nat) (v:=fun x=> .tuple #[qr x.1.1 (LS (Mx rs) (JO rs)).length x.1.2, .int .i64 (Rl (Mx rs) (JO rs)), .bool (zL (Mx rs) (JO rs))]) (r:=fun x=>kI (LS (Mx rs) (JO rs)).length (LS (Mx rs) (JO rs)) x.2.1 x.2.2 x.1.1) (H:=fun _=>True) J J J (lb J) (fun w1 hs=>Q6 (V:=fun A' c'=> .tuple #[qr A' (LS (Mx rs) (JO rs)).length c', .int .i64 (Rl (Mx rs) (JO rs)), .bool (zL (Mx rs) (JO rs))]) (yE _ _ gA _ gc (JO rs) pA (Mx rs).length pc (Mx rs) w1 (qi (k:=3) J J w1 hs) (JT (hs.cel (k:=3) J)) (UE (hs.all 2 _ J).1).rings hk.reg (ub (hs.all 5 _ J).1 J) hk.len hk.ok hk.nd hk.bare)) ?_
  rintro⟨⟨hA,hc⟩,hlo,hhi⟩ -
  refine N5 ?_;refine aL (fun b4=> ?_);refine N11 ?_;refine cZ (fun c2=> ?_) (fun c2=> ?_)
  ·refine S2 ?_;refine a9 (JR J J (J9)) ?_;refine S7 ?_;refine YD J (J8 (k:=1) J jv J J) (.tmp J) (.tmp J) ?_
   intro w' hs
   have hn:=jiN c2
   exact⟨none,0,by rw [e1,e2,e3,hn.1,hn.2,c2];rfl,by rw [e1,hn.1];exact OwnG.nil none,hs.fin⟩
  ·refine S12 ?_;refine YD J (J8 (k:=1) J jv J J) (.tmp J) (.tmp J) ?_
   intro w' hs
   have hg:=hs.all 6 _ rfl
   have ho:=yC hg.1 (fun b hb=> (hg.2.1 b hb).elim id (fun h=>by cases h))
   exact⟨hA,hc,by rw [e1,e2,e3,c2];rfl,by rw [e1];exact ho,hs.fin⟩
end Go.Proofs.YtbahojdbmmjkcaaGreat
namespace Go.Proofs.YtbahojdbmmjkcaaGreat
open Go Go.RowKit
variable {e p:Leg} {k:Nat} {s:Bool} {α:Type}
def xw (e f:Leg) :Prop:=vG (lA e) (lA f)∨(lA e=lA f∧vG (lB e) (lB f))
instance (e f:Leg) :Decidable (xw e f) :=by unfold xw;exact inferInstance
theorem YR {f:Leg} (h1:lA e=lA f) (h2:lB e=lB f) :e=f:=by
 rcases e with⟨a1,a2,a3,a4⟩
 rcases f with⟨b1,b2,b3,b4⟩
 simp only [lA,lB,Prod.mk.injEq] at h1 h2
 rw [h1.1,h1.2,h2.1,h2.2]
theorem Yd {f g:Leg} (h:xw e f) (h':xw f g) :xw e g:=by
 rcases h with h |⟨h1,h2⟩
 ·rcases h' with h' |⟨h3,_⟩
  ·exact .inl (VL h h')
  ·exact .inl (h3▸h)
 ·rcases h' with h' |⟨h3,h4⟩
  ·exact .inl (h1▸h')
  ·exact .inr ⟨h1.trans h3,VL h2 h4⟩
theorem vE (e:Leg) :¬xw e e:=by
 rintro(h |⟨_,h⟩) <;>exact kD _ h
theorem MH (e f:Leg) :xw e f∨e=f∨xw f e:=by
 rcases ym (lA e) (lA f) with h | h | h
 ·exact .inl (.inl h)
 ·rcases ym (lB e) (lB f) with h' | h' | h'
  ·exact .inl (.inr ⟨h,h'⟩)
  ·exact .inr (.inl (YR h h'))
  ·exact .inr (.inr (.inr ⟨h.symm,h'⟩))
 ·exact .inr (.inr (.inl h))
theorem Pr {f g:Leg} (h:¬xw e f) (h':¬xw f g) :¬xw e g:=fun k=>by
 rcases MH f g with c | c | c
 ·exact h' c
 ·exact h (c▸k)
 ·exact h (Yd k c)
def jeE (l:List Leg) :Prop:=l.Pairwise xw
theorem zP:∀ {l m:List Leg},jeE l→jeE m→(∀p,p∈l↔p∈m)→l=m
 | [],[],_,_,_=>rfl
 | [],q::m,_,_,h=>absurd ((h q).2 (by simp)) (by simp)
 | p::l,[],_,_,h=>absurd ((h p).1 (by simp)) (by simp)
 | p::l,q::m,hl,hm,h=>by
  have kl:=jjX.1 hl
  have km:=jjX.1 hm
  have e:p=q:=by
   rcases jjw.1 ((h p).1 (by simp)) with e | h1
   ·exact e
   ·rcases jjw.1 ((h q).2 (by simp)) with e | h2
    ·exact e.symm
    ·exact absurd (Yd (kl.1 q h2) (km.1 p h1)) (vE p)
  subst e
  congr 1
  refine zP kl.2 km.2 fun r=> ?_
  constructor
  ·intro hr
   rcases jjw.1 ((h r).1 (jjs _ hr)) with e | h1
   ·exact absurd (e▸kl.1 r hr) (vE _)
   ·exact h1
  ·intro hr
   rcases jjw.1 ((h r).2 (jjs _ hr)) with e | h1
   ·exact absurd (e▸km.1 r hr) (vE _)
   ·exact h1
def QS:List Leg→List Leg
 | [] => []
 | [p] => [p]
 | p::q::l=>if p=q then QS (q::l) else p::QS (q::l)
theorem ZS:∀(l:List Leg) (r:Leg),r∈QS l↔r∈l
 | [],_=>Iff.rfl
 | [_],_=>Iff.rfl
 | p::q::l,r=>by
  unfold QS
  split
  ·rename_i e
   rw [ZS (q::l) r,e]
   simp
  ·rw [jjw,ZS (q::l) r]
   simp
def EZ (l:List Leg) :Prop:=l.Pairwise fun p q=>¬xw q p
theorem D3:∀ {l:List Leg},EZ l→jeE (QS l)
 | [],_=>List.Pairwise.nil
 | [p],_=>jkG _ _
 | p::q::l,h=>by
  have h1:=jjX.1 h
  have ih:=D3 (l:=q::l) h1.2
  unfold QS
  split
  ·exact ih
  ·rename_i hne
   refine jjX.2 ⟨fun r hr=> ?_,ih⟩
   rw [ZS] at hr
   have hpq:xw p q:=by
    rcases MH p q with h2 | h2 | h2
    ·exact h2
    ·exact absurd h2 hne
    ·exact absurd h2 (h1.1 q (by simp))
   rcases jjw.1 hr with e | hr
   ·rw [e];exact hpq
   ·have h3:= (jjX.1 h1.2).1 r hr
    rcases MH q r with c | c | c
    ·exact Yd hpq c
    ·exact c▸hpq
    ·exact absurd c h3
def ku (e:Leg) :Leg:=⟨e.bx,e.b_y,e.ax,e.ay⟩
def Q3 (e:Leg) :Leg:=if vG (lB e) (lA e) then ku e else e
def sg (e:Leg) :Int:=if vG (lB e) (lA e) then-1 else 1
theorem FG (e:Leg) :ku (ku e) =e:=rfl
theorem jdn (h:qM e) :qM (Q3 e) :=by
 unfold Q3
 split
 ·exact⟨h.2.2.1,h.2.2.2,h.1,h.2.1⟩
 ·exact h
theorem jfM (e:Leg) :¬vG (lB (Q3 e)) (lA (Q3 e)) :=by
 unfold Q3
 split
 ·rename_i h
  intro k
  exact kD _ (VL h k)
 ·assumption
theorem MK (hp:¬vG (lB p) (lA p)) (hne:lA p≠lB p) :Q3 e=p↔e=p∨e=ku p:=by
 unfold Q3
 constructor
 ·split
  ·intro h
   exact .inr (by rw [←h];rfl)
  ·exact .inl
 ·rintro(rfl | rfl)
  ·rw [if_neg hp]
  ·have:vG (lB (ku p)) (lA (ku p)) :=by
    rcases ym (lA p) (lB p) with h | h | h
    ·exact h
    ·exact absurd h hne
    ·exact absurd h hp
   rw [if_pos this,FG]
theorem Ev (hp:¬vG (lB p) (lA p)) :sg p=1:=if_neg hp
theorem jd1 (hp:¬vG (lB p) (lA p)) (hne:lA p≠lB p) :sg (ku p) = -1:=by
 have:vG (lB (ku p)) (lA (ku p)) :=by
  rcases ym (lA p) (lB p) with h | h | h
  ·exact h
  ·exact absurd h hne
  ·exact absurd h hp
 exact if_pos this
def sm {α:Type} (f:α→Int) :List α→Int
 | [] =>0
 | x::l=>f x+sm f l
theorem kV {α:Type} (f:α→Int) :∀a b:List α,sm f (a++b) =sm f a+sm f b
 | [],b=>by simp [sm]
 | x::a,b=>by simp only [jjN,sm,kV f a b];omega
theorem J0 {α:Type} {f g:α→Int} :∀ {l:List α},(∀x∈l,f x=g x)→sm f l=sm g l
 | [],_=>rfl
 | x::l,h=>by simp only [sm];rw [h x (by simp),J0 fun y hy=>h y (jjs _ hy)]
theorem yL {α:Type} (f g:α→Int) :∀l:List α,sm (fun x=>f x+g x) l=sm f l+sm g l
 | [] =>rfl
 | x::l=>by simp only [sm,yL f g l];omega
theorem yM {α:Type} (f g:α→Int) :∀l:List α,sm (fun x=>f x- g x) l=sm f l- sm g l
 | [] =>rfl
 | x::l=>by simp only [sm,yM f g l];omega
theorem uf {α:Type} :∀l:List α,sm (fun _=> (0:Int)) l=0
 | [] =>rfl
 | x::l=>by simp only [sm,uf l];rfl
theorem jgN {α:Type} {f:α→Int} :∀ {l:List α},(∀x∈l,-1≤f x∧f x≤1)→-(l.length:Int)≤sm f l∧sm f l≤l.length
 | [],_=>by simp [sm]
 | x::l,h=>by
  have h1:=h x (by simp)
  have h2:=jgN (l:=l) fun y hy=>h y (jjs _ hy)
  simp only [sm,jjr]
  omega
structure Nt where
 e:Leg
 one:Int
 two:Int
 l1:Int
 l2:Int
def qo (x:Nt) :List Value:=Ji x.e++ [.int .i64 x.one, .int .i64 x.two, .int .i64 x.l1, .int .i64 x.l2]
def Zq (e:Leg) :Nt:=⟨e,0,0,0,0⟩
def nt (l:List Nt) (k:Nat) :Nt:=l.getD k (Zq ⟨0,0,0,0⟩)
theorem zQ {l:List Nt} (h:k<l.length) :l[k] =nt l k:=by simp [nt,List.getD,List.getElem?_eq_getElem h]
def wY (s:Bool) (n:Int) (x:Nt) :Nt:=if s=true then {x with two:=x.two+n} else {x with one:=x.one+n}
theorem XM (s:Bool) (n:Int) (x:Nt) : (wY s n x).e=x.e:=by unfold wY;split<;>rfl
def WS (s:Bool) (e:Leg) :List Nt→List Nt
 | [] => [wY s (sg e) (Zq (Q3 e))]
 | x::l=>if xw x.e (Q3 e) then x::WS s e l else if x.e=Q3 e then wY s (sg e) x::l else wY s (sg e) (Zq (Q3 e)) ::x::l
def Ho (l:List Nt) (k:Nat) (e:Leg) :List Nt:=l.take k++Zq e::l.drop k
theorem RW {s:Bool} {e:Leg} :∀ {l:List Nt} {k:Nat},k≤l.length→(∀j,j<k→xw (nt l j).e (Q3 e))→(k<l.length→¬xw (nt l k).e (Q3 e)∧(nt l k).e≠Q3 e)→
  WS s e l= (Ho l k (Q3 e)).set k (wY s (sg e) (nt (Ho l k (Q3 e)) k))
 | [],k,hk,_,_=>by
  have:k=0:=by simpa using hk
  subst this
  rfl
 | x::l,0,_,_,h=>by
  have:¬xw x.e (Q3 e)∧x.e≠Q3 e:=h (by simp)
  rw [WS,if_neg this.1,if_neg this.2]
  rfl
 | x::l,k+1,hk,h1,h2=>by
  have h0:xw x.e (Q3 e) :=h1 0 Om
  rw [WS,if_pos h0,RW (l:=l) (k:=k) (by simpa using hk) (fun j hj=>h1 (j+1) Om) (fun hk'=>h2 (by simpa using hk'))]
  rfl
theorem RX {s:Bool} {e:Leg} :∀ {l:List Nt} {k:Nat},k<l.length→(∀j,j<k→xw (nt l j).e (Q3 e))→(nt l k).e=Q3 e→
  WS s e l=l.set k (wY s (sg e) (nt l k))
 | [],k,hk,_,_=>absurd hk (by simp)
 | x::l,0,_,_,h=>by
  have h':x.e=Q3 e:=h
  rw [WS,if_neg (by rw [h'];exact vE _),if_pos h']
  rfl
 | x::l,k+1,hk,h1,h2=>by
  have h0:xw x.e (Q3 e) :=h1 0 Om
  rw [WS,if_pos h0,RX (l:=l) (k:=k) (by simpa using hk) (fun j hj=>h1 (j+1) Om) h2]
  rfl
theorem M5 {s:Bool} {e q:Leg} :∀ {l:List Nt},(∃x∈WS s e l,x.e=q)↔(∃x∈l,x.e=q)∨q=Q3 e
 | [] =>by simp [WS,XM,Zq,eq_comm]
 | x::l=>by
  have ih:=M5 (s:=s) (e:=e) (q:=q) (l:=l)
  unfold WS
  split
  ·simp only [jjw,exists_eq_or_imp,ih,or_assoc]
  ·split
   ·rename_i h
    simp only [jjw,exists_eq_or_imp,XM]
    constructor
    ·exact .inl
    ·rintro(h1 | h1)
     ·exact h1
     ·exact .inl (h1▸h)
   ·simp only [jjw,exists_eq_or_imp,XM]
    constructor
    ·rintro(h1 | h1)
     ·exact .inr h1.symm
     ·exact .inl h1
    ·rintro(h1 | h1)
     ·exact .inr h1
     ·exact .inl h1.symm
def Xy (l:List Nt) :Prop:=l.Pairwise fun x y=>xw x.e y.e
theorem RT {s:Bool} {e:Leg} :∀ {l:List Nt},Xy l→Xy (WS s e l)
 | [],_=>jkG _ _
 | x::l,h=>by
  have h1:=jjX.1 h
  unfold WS
  split
  ·rename_i hx
   refine jjX.2 ⟨fun y hy=> ?_,RT h1.2⟩
   rcases(M5 (q:=y.e)).1 ⟨y,hy,rfl⟩ with⟨z,hz,e1⟩ | e1
   ·rw [←e1];exact h1.1 z hz
   ·rw [e1];exact hx
  ·rename_i hx
   split
   ·refine jjX.2 ⟨fun y hy=> ?_,h1.2⟩
    rw [XM];exact h1.1 y hy
   ·rename_i hne
    have hlt:xw (Q3 e) x.e:=by
     rcases MH (Q3 e) x.e with c | c | c
     ·exact c
     ·exact absurd c.symm hne
     ·exact absurd c hx
    refine jjX.2 ⟨fun y hy=> ?_,h⟩
    rw [XM]
    rcases jjw.1 hy with c | hy
    ·rw [c];exact hlt
    ·exact Yd hlt (h1.1 y hy)
def V6 (s:Bool) (x:Nt) :Int:=if s=true then x.two else x.one
def wS (s:Bool) (F:Leg→Int) (l:List Nt) :Int:=sm (fun x=>V6 s x*F x.e) l
theorem jbz {s t:Bool} {e:Leg} (F:Leg→Int) :∀(l:List Nt),wS t F (WS s e l) =wS t F l+ (if s=t then sg e*F (Q3 e) else 0)
 | [] =>by
  cases s<;>cases t<;>simp [wS,WS,sm,V6,wY,Zq]
 | x::l=>by
  have ih:=jbz (s:=s) (t:=t) (e:=e) F l
  unfold wS at ih⊢
  unfold WS
  split
  ·simp only [sm,ih];omega
  ·split
   ·rename_i h
    cases s<;>cases t<;>simp [sm,V6,wY,h] <;>grind
   ·cases s<;>cases t<;>simp [sm,V6,wY,Zq] <;>grind
def Qe (s:Bool) (es:List Leg) (l:List Nt) :List Nt:=es.foldl (fun l e=>WS s e l) l
theorem Wq {s:Bool} :∀ {es:List Leg} {l:List Nt},Xy l→Xy (Qe s es l)
 | [],_,h=>h
 | e::es,l,h=>Wq (es:=es) (RT (e:=e) h)
theorem Ws {s:Bool} {q:Leg} :∀ {es:List Leg} {l:List Nt},(∃x∈Qe s es l,x.e=q)↔(∃x∈l,x.e=q)∨∃e∈es,q=Q3 e
 | [],l=>by simp [Qe]
 | e::es,l=>by
  have:=Ws (s:=s) (q:=q) (es:=es) (l:=WS s e l)
  unfold Qe at this⊢
  rw [jkk,this,M5]
  simp only [jjw,exists_eq_or_imp,or_assoc]
theorem zN {s t:Bool} (F:Leg→Int) :∀(es:List Leg) (l:List Nt),wS t F (Qe s es l) =wS t F l+ (if s=t then sm (fun e=>sg e*F (Q3 e)) es else 0)
 | [],l=>by simp [Qe,sm]
 | e::es,l=>by
  have:=zN (s:=s) (t:=t) F es (WS s e l)
  unfold Qe at this⊢
  rw [jkk,this,jbz]
  split<;> (try simp only [sm]) <;>omega
theorem RU {s:Bool} {e:Leg} :∀(l:List Nt),(WS s e l).length≤l.length+1
 | [] =>by simp [WS]
 | x::l=>by
  have:=RU (s:=s) (e:=e) l
  unfold WS
  split
  ·simp only [jjr];omega
  ·split<;>simp only [jjr] <;>omega
def xf (x:Int) :Int:=if x<0 then-x else x
theorem It (x:Int) :0≤xf x:=by unfold xf;split<;>omega
theorem CE (x:Int) : -xf x≤x∧x≤xf x:=by unfold xf;split<;>omega
def aS (s:Bool) (l:List Nt) :Int:=sm (fun x=>xf (V6 s x)) l
theorem TS (e:Leg) :sg e=1∨sg e= -1:=by unfold sg;split<;>simp
theorem jby {s t:Bool} {e:Leg} :∀(l:List Nt),aS t (WS s e l)≤aS t l+ (if s=t then 1 else 0)
 | [] =>by
  have:=TS e
  cases s<;>cases t<;>simp [aS,WS,sm,V6,wY,Zq,xf] <;>omega
 | x::l=>by
  have ih:=jby (s:=s) (t:=t) (e:=e) l
  have:=TS e
  unfold aS at ih⊢
  unfold WS
  split
  ·simp only [sm];omega
  ·split
   ·cases s<;>cases t<;>simp [sm,V6,wY,xf] <;> (repeat' split) <;>omega
   ·cases s<;>cases t<;>simp [sm,V6,wY,Zq,xf] <;> (repeat' split) <;>omega
theorem zM {s t:Bool} :∀(es:List Leg) (l:List Nt),aS t (Qe s es l)≤aS t l+ (if s=t then(es.length:Int) else 0)
 | [],l=>by simp [Qe]
 | e::es,l=>by
  have h1:=zM (s:=s) (t:=t) es (WS s e l)
  have h2:=jby (s:=s) (t:=t) (e:=e) l
  unfold Qe at h1⊢
  rw [jkk]
  split at h1<;>split at h2<;>simp only [jjr] <;> (try split) <;>simp_all<;>omega
structure Ne where
 e:Leg
 net:Int
 left:Int
 right:Int
def vQ (p:Leg) :Int:=p.ax+p.bx
def vh (p:Leg) :Int:=p.ay+p.b_y
def Qo (es:List Leg) (p:Leg) :Int:=sm (fun e=>if Q3 e=p then sg e else 0) es
def WX (es:List Leg) (p:Leg) :Int:=sm (fun e=>if Q3 e=p then 0 else QB (kg true e) (vQ p) (vh p)) es
def kZ (es:List Leg) (p:Leg) :Ne:=if p.ay=p.b_y then⟨p,Qo es p,WX es p,WX es p- Qo es p⟩ else⟨p,Qo es p,WX es p+Qo es p,WX es p⟩
def xo (e:Leg) :Leg:=⟨-e.ay,e.ax,-e.b_y,e.bx⟩
def Di (p q:Leg) :Int:=if p.ay=p.b_y then QB (xo (kg true q)) (-(vh p)) (vQ p) else QB (kg true q) (vQ p) (vh p)
def QG (s:Bool) (l:List Nt) (k:Nat) :Nat→Int
 | 0=>0
 | i+1=>QG s l k i+ (if i=k then 0 else V6 s (nt l i) *Di (nt l k).e (nt l i).e)
theorem jev (l:Leg) (x y:Int) : -1≤QB l x y∧QB l x y≤1:=by unfold QB;split<;> (try split) <;>omega
theorem jeQ (p q:Leg) : -1≤Di p q∧Di p q≤1:=by unfold Di;split<;>exact jev _ _ _
theorem jde {c g:Int} (h: -1≤g∧g≤1) : -xf c≤c*g∧c*g≤xf c:=by
 have h1:=CE c
 have:g= -1∨g=0∨g=1:=by omega
 rcases this with rfl | rfl | rfl<;>simp<;>omega
theorem MT (f:α→Int) {l:List α} (h:k<l.length) :sm f (l.take (k+1)) =sm f (l.take k) +f l[k] :=by
 rw [jjt h,kV]
 simp [sm]
theorem jd6 {α:Type} {f:α→Int} (h:∀x,0≤f x) :∀l:List α,0≤sm f l
 | [] =>jlg _
 | x::l=>by
  have:=h x
  have:=jd6 h l
  simp only [sm]
  omega
theorem PI {f:α→Int} (h:∀x,0≤f x) (l:List α) (k:Nat) :sm f (l.take k)≤sm f l:=by
 have e:sm f l=sm f (l.take k) +sm f (l.drop k) :=by rw [←kV,jjA]
 have:=jd6 h (l.drop k)
 omega
theorem DW {s:Bool} {l:List Nt} {k:Nat} :∀i,i≤l.length→-sm (fun x=>xf (V6 s x)) (l.take i)≤QG s l k i∧QG s l k i≤sm (fun x=>xf (V6 s x)) (l.take i)
 | 0,_=>by simp [QG,sm]
 | i+1,h=>by
  have h1:=DW (s:=s) (l:=l) (k:=k) i Om
  have h2:=jde (c:=V6 s (nt l i)) (jeQ (nt l k).e (nt l i).e)
  have h3:=It (V6 s (nt l i))
  rw [MT _ Om,zQ Om,QG]
  split<;>omega
theorem yW {l:List Nt} {i:Nat} (h:i≤l.length) : -aS s l≤QG s l k i∧QG s l k i≤aS s l:=by
 have h1:=DW (s:=s) (l:=l) (k:=k) i h
 have h2:=PI (f:=fun x=>xf (V6 s x)) (fun x=>It _) l i
 unfold aS
 omega
theorem Hz {l:List Nt} (h:k<l.length) :nt l k∈l:=by rw [←zQ h];exact jju h
theorem jbG {l:List Nt} (h:Xy l) {i:Nat} (hi:i<l.length) (hk:k<l.length) (he: (nt l i).e= (nt l k).e) :i=k:=by
 rcases Nat.lt_trichotomy i k with c | c | c
 ·have:=jkt.1 h i k hi hk c
  rw [zQ hi,zQ hk,he] at this
  exact absurd this (vE _)
 ·exact c
 ·have:=jkt.1 h k i hk hi c
  rw [zQ hi,zQ hk,he] at this
  exact absurd this (vE _)
theorem R4 {s:Bool} {l:List Nt} {k:Nat} (ha:Xy l) (hk:k<l.length) :∀i,i≤l.length→QG s l k i=sm (fun x=>V6 s x* (if x.e= (nt l k).e then 0 else Di (nt l k).e x.e)) (l.take i)
 | 0,_=>rfl
 | i+1,h=>by
  rw [MT _ Om,zQ Om,QG,R4 ha hk i Om]
  congr 1
  by_cases e:i=k
  ·subst e
   simp
  ·rw [if_neg e,if_neg fun he=>e (jbG ha Om hk he)]
theorem E8 {l:List Nt} (ha:Xy l) (hk:k<l.length) :QG s l k l.length=wS s (fun q=>if q= (nt l k).e then 0 else Di (nt l k).e q) l:=by
 rw [R4 ha hk _ (jjm _),jj3]
 rfl
theorem EP {s:Bool} {p:Leg} :∀ {l:List Nt},(∀x∈l,x.e≠p)→wS s (fun q=>if q=p then 1 else 0) l=0
 | [],_=>rfl
 | x::l,h=>by
  have:=EP (s:=s) (l:=l) fun y hy=>h y (jjs _ hy)
  unfold wS at*
  simp only [sm,this]
  rw [if_neg (h x (by simp))]
  simp
theorem jgR {s:Bool} :∀ {l:List Nt} {x:Nt},Xy l→x∈l→wS s (fun q=>if q=x.e then 1 else 0) l=V6 s x
 | y::l,x,h,hx=>by
  have h1:=jjX.1 h
  rcases jjw.1 hx with e | hx
  ·subst e
   have:=EP (s:=s) (p:=x.e) (l:=l) fun z hz e=>vE _ (e▸h1.1 z hz)
   unfold wS at*
   simp only [sm,this,if_true]
   omega
  ·have:=jgR (s:=s) h1.2 hx
   have hne:y.e≠x.e:=fun e=>vE _ (e▸h1.1 x hx)
   unfold wS at*
   simp only [sm,this,if_neg hne]
   omega
theorem Ug (l:Leg) (x y:Int) :QB l x y=if(l.ay≤y∧y<l.b_y)∧0<Q0 l.ax l.ay l.bx l.b_y x y then 1 else if(l.b_y≤y∧y<l.ay)∧Q0 l.ax l.ay l.bx l.b_y x y<0 then-1 else 0:=by
 unfold QB F2 uz
 simp only [jjl,decide_eq_true_eq]
theorem xb (e:Leg) (x y:Int) :QB (ku e) x y= -QB e x y:=by
 have ht:Q0 (ku e).ax (ku e).ay (ku e).bx (ku e).b_y x y= -Q0 e.ax e.ay e.bx e.b_y x y:=by simp only [ku,Q0];grind
 rw [Ug,Ug,ht]
 generalize Q0 e.ax e.ay e.bx e.b_y x y=t
 simp only [ku]
 repeat' split
 all_goals omega
theorem je9 (e:Leg) (x y:Int) :sg e*QB (kg true (Q3 e)) x y=QB (kg true e) x y:=by
 unfold Q3 sg
 split
 ·rw [show kg true (ku e) =ku (kg true e) from rfl,xb];omega
 ·omega
theorem jga (e:Leg) (x y:Int) :sg e*QB (xo (kg true (Q3 e))) x y=QB (xo (kg true e)) x y:=by
 unfold Q3 sg
 split
 ·rw [show xo (kg true (ku e)) =ku (xo (kg true e)) from rfl,xb];omega
 ·omega
def qu (x y mx my:Int) :Int:=if mx<x∧y≤my then 1 else 0
theorem Z6 {a b p:Int} (h:p=a*b) : (0<a∧0<b∧0<p)∨(0<a∧b<0∧p<0)∨(a<0∧0<b∧p<0)∨(a<0∧b<0∧0<p)∨(a=0∧p=0)∨(b=0∧p=0) :=by
 subst h
 rcases jj4 a 0 with ha | ha | ha
 ·rcases jj4 b 0 with hb | hb | hb
  ·exact .inr (.inr (.inr (.inl ⟨ha,hb,Int.mul_pos_of_neg_of_neg ha hb⟩)))
  ·subst hb;simp
  ·exact .inr (.inr (.inl ⟨ha,hb,jke ha hb⟩))
 ·subst ha;simp
 ·rcases jj4 b 0 with hb | hb | hb
  ·exact .inr (.inl ⟨ha,hb,jkD ha hb⟩)
  ·subst hb;simp
  ·exact .inl ⟨ha,hb,jjZ ha hb⟩
theorem jgq {a1 a2 b1 b2 t:Int} (ht:t=a1*b2- a2*b1) (hno:¬(t=0∧(min a1 b1≤0∧0≤max a1 b1)∧min a2 b2≤0∧0≤max a2 b2)) :
  (if(a2≤0∧0<b2)∧0<t then(1:Int) else if(b2≤0∧0<a2)∧t<0 then-1 else 0) - (if(a1≤0∧0<b1)∧0<t then(1:Int) else if(b1≤0∧0<a1)∧t<0 then-1 else 0)
   = (if 0<a1∧a2≤0 then 1 else 0) - (if 0<b1∧b2≤0 then 1 else 0) :=by
 have h1:=Z6 (a:=a1) (b:=b2) rfl
 have h2:=Z6 (a:=a2) (b:=b1) rfl
 generalize a1*b2=p at*
 generalize a2*b1=q at*
 subst ht
 rcases h1 with h1 | h1 | h1 | h1 | h1 | h1<;>rcases h2 with h2 | h2 | h2 | h2 | h2 | h2<;> (repeat' split) <;>omega
theorem jei {mx my:Int} (hno:¬(Q0 e.ax e.ay e.bx e.b_y mx my=0∧(min e.ax e.bx≤mx∧mx≤max e.ax e.bx)∧min e.ay e.b_y≤my∧my≤max e.ay e.b_y)) :
  QB e mx my- QB (xo e) (-my) mx=qu e.ax e.ay mx my- qu e.bx e.b_y mx my:=by
 have hr:Q0 (xo e).ax (xo e).ay (xo e).bx (xo e).b_y (-my) mx=Q0 e.ax e.ay e.bx e.b_y mx my:=by simp only [xo,Q0];grind
 have ht:Q0 e.ax e.ay e.bx e.b_y mx my= (e.ax- mx) * (e.b_y- my) - (e.ay- my) * (e.bx- mx) :=by simp only [Q0];grind
 have h:=jgq ht (fun k=>hno ⟨k.1,by omega,by omega⟩)
 rw [Ug,Ug,hr]
 unfold qu
 generalize Q0 e.ax e.ay e.bx e.b_y mx my=t at*
 simp only [xo]
 have e1: (e.ay≤my∧my<e.b_y)∧0<t↔(e.ay- my≤0∧0<e.b_y- my)∧0<t:=by omega
 have e2: (e.b_y≤my∧my<e.ay)∧t<0↔(e.b_y- my≤0∧0<e.ay- my)∧t<0:=by omega
 have e3: (e.ax≤mx∧mx<e.bx)∧0<t↔(e.ax- mx≤0∧0<e.bx- mx)∧0<t:=by omega
 have e4: (e.bx≤mx∧mx<e.ax)∧t<0↔(e.bx- mx≤0∧0<e.ax- mx)∧t<0:=by omega
 have e5:mx<e.ax∧e.ay≤my↔0<e.ax- mx∧e.ay- my≤0:=by omega
 have e6:mx<e.bx∧e.b_y≤my↔0<e.bx- mx∧e.b_y- my≤0:=by omega
 simp only [e1,e2,e3,e4,e5,e6]
 exact h
end Go.Proofs.YtbahojdbmmjkcaaGreat
