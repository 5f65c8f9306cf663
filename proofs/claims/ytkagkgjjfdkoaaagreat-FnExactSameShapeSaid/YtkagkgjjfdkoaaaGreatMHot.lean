import Derived.Test.YtkagkgjjfdkoaaaGreatMSnapped
import Derived.Test.YtkagkgjjfdkoaaaGreatMSimp
set_option linter.unusedVariables false
set_option linter.unusedSimpArgs false
namespace Go.Proofs.YtkagkgjjfdkoaaaGreat
open Go Go.RowKit
set_option maxRecDepth 100000
set_option maxHeartbeats 4000000
def wq (p q:Pn) :Prop:=p.2<q.2∨(p.2=q.2∧p.1<q.1)
instance (p q:Pn) :Decidable (wq p q) :=by unfold wq;exact inferInstance
theorem vP {p q r:Pn} (h:wq p q) (h':wq q r) :wq p r:=by unfold wq at*;omega
theorem Q7 (p:Pn) :¬wq p p:=by unfold wq;omega
theorem Uc (p q:Pn) :wq p q∨p=q∨wq q p:=by
 rcases p with⟨x,y⟩
 rcases q with⟨x',y'⟩
 simp only [wq,Prod.mk.injEq]
 omega
def Asc (l:List Pn) :Prop:=l.Pairwise wq
theorem Asc.head {p:Pn} {l:List Pn} (h:Asc (p::l)) :∀q∈l,wq p q:= (jff.1 h).1
theorem Asc.tail {p:Pn} {l:List Pn} (h:Asc (p::l)) :Asc l:= (jff.1 h).2
theorem Tc:∀ {l m:List Pn},Asc l→Asc m→(∀p,p∈l↔p∈m)→l=m
 | [],[],_,_,_=>rfl
 | [],q::m,_,_,h=>absurd ((h q).2 (by simp)) (by simp)
 | p::l,[],_,_,h=>absurd ((h p).1 (by simp)) (by simp)
 | p::l,q::m,hl,hm,h=>by
  have e:p=q:=by
   rcases je0.1 ((h p).1 (by simp)) with e | h1
   ·exact e
   ·rcases je0.1 ((h q).2 (by simp)) with e | h2
    ·exact e.symm
    ·exact absurd (vP (hl.head q h2) (hm.head p h1)) (Q7 p)
  subst e
  congr 1
  refine Tc hl.tail hm.tail fun r=> ?_
  constructor
  ·intro hr
   rcases je0.1 ((h r).1 (je5 _ hr)) with e | h1
   ·exact absurd (e▸hl.head r hr) (Q7 _)
   ·exact h1
  ·intro hr
   rcases je0.1 ((h r).2 (je5 _ hr)) with e | h1
   ·exact absurd (e▸hm.head r hr) (Q7 _)
   ·exact h1
def VM (xs:List Pn) (p:Pn) :Nat→Nat
 | 0=>0
 | k+1=>if wq p (pt xs k) then VM xs p k else k+1
theorem HZ (xs:List Pn) (p:Pn) :∀k,VM xs p k≤k
 | 0=>jeD _
 | k+1=>by
  unfold VM
  split
  ·have:=HZ xs p k;omega
  ·exact jeD _
theorem TX (xs:List Pn) (p:Pn) :∀k j,VM xs p k≤j→j<k→wq p (pt xs j)
 | 0,j,_,h=>absurd h (by omega)
 | k+1,j,h,h'=>by
  unfold VM at h
  split at h
  ·rename_i hp
   by_cases e:j=k
   ·rw [e];exact hp
   ·exact TX xs p k j h (by omega)
  ·omega
theorem TW (xs:List Pn) (p:Pn) :∀k,0<VM xs p k→¬wq p (pt xs (VM xs p k- 1))
 | 0,h=>absurd h (by simp [VM])
 | k+1,h=>by
  unfold VM at h⊢
  split at h
  ·rename_i hp
   rw [if_pos hp]
   exact TW xs p k h
  ·rename_i hp
   rw [if_neg hp]
   exact hp
def vy (xs:List Pn) (p:Pn) :List Pn:=if 0<VM xs p xs.length∧pt xs (VM xs p xs.length- 1) =p then xs else xs.take (VM xs p xs.length) ++p::xs.drop (VM xs p xs.length)
theorem Kl {xs:List Pn} {k:Nat} (h:k<xs.length) :xs[k] =pt xs k:=Ya h
theorem x6 {xs:List Pn} {p q:Pn} :q∈vy xs p↔q∈xs∨q=p:=by
 unfold vy
 split
 ·rename_i h
  have hle:=HZ xs p xs.length
  constructor
  ·exact .inl
  ·rintro(h1 | rfl)
   ·exact h1
   ·rw [←h.2,←Kl (by omega)]
    exact jeW _
 ·have:=jeU (VM xs p xs.length) xs
  constructor
  ·intro h1
   rcases jeY.1 h1 with h1 | h1
   ·exact .inl (jfj h1)
   ·rcases je0.1 h1 with h1 | h1
    ·exact .inr h1
    ·exact .inl (jfy h1)
  ·rintro(h1 | h1)
   ·rw [←this] at h1
    rcases jeY.1 h1 with h2 | h2
    ·exact jeY.2 (.inl h2)
    ·exact jeY.2 (.inr (je5 _ h2))
   ·rw [h1];simp
theorem E9 {xs:List Pn} {p:Pn} (h:Asc xs) :Asc (vy xs p) :=by
 unfold vy
 split
 ·exact h
 ·rename_i hn
  have hle:=HZ xs p xs.length
  have hs:=jf4.1 ((jeU (VM xs p xs.length) xs).symm▸h:Asc (xs.take (VM xs p xs.length) ++xs.drop (VM xs p xs.length)))
  refine jf4.2 ⟨hs.1,jff.2 ⟨fun q hq=> ?_,hs.2.1⟩,fun a ha b hb=> ?_⟩
  ·obtain ⟨j,hj,rfl⟩ :=jfm hq
   rw [je2] at hj
   rw [List.getElem_drop,Kl (by omega)]
   exact TX xs p xs.length _ (by omega) (by omega)
  ·rcases je0.1 hb with e | hb
   ·subst e
    obtain ⟨j,hj,rfl⟩ :=jfm ha
    rw [jeV] at hj
    rw [List.getElem_take,Kl (by omega)]
    have hd:=TW xs b xs.length (by omega)
    have h1:wq (pt xs (VM xs b xs.length- 1)) b:=by
     rcases Uc (pt xs (VM xs b xs.length- 1)) b with h1 | h1 | h1
     ·exact h1
     ·exact absurd ⟨by omega,h1⟩ hn
     ·exact absurd h1 hd
    by_cases e:j=VM xs b xs.length- 1
    ·rw [e];exact h1
    ·have:=jfH.1 h j (VM xs b xs.length- 1) (by omega) (by omega) (by omega)
     rw [Kl (by omega),Kl (by omega)] at this
     exact vP this h1
   ·exact hs.2.2 a ha b hb
def kh (l:List Pn) :List Pn:=l.foldl vy []
theorem O1 (l:List Pn) :∀xs,Asc xs→Asc (l.foldl vy xs)∧∀q,q∈l.foldl vy xs↔q∈xs∨q∈l:=by
 induction l with
 | nil=>intro xs h;exact⟨h,fun q=>by simp⟩
 | cons p l ih=>
  intro xs h
  obtain ⟨h1,h2⟩ :=ih (vy xs p) (E9 h)
  refine⟨h1,fun q=> ?_⟩
  rw [jfD,h2 q,x6,je0]
  constructor
  ·rintro((h | h) | h)
   ·exact .inl h
   ·exact .inr (.inl h)
   ·exact .inr (.inr h)
  ·rintro(h | h | h)
   ·exact .inl (.inl h)
   ·exact .inl (.inr h)
   ·exact .inr h
theorem ZJ (l:List Pn) :Asc (kh l) := (O1 l [] List.Pairwise.nil).1
theorem yD (l:List Pn) (q:Pn) :q∈kh l↔q∈l:=by rw [kh,(O1 l [] List.Pairwise.nil).2 q];simp
def QG:List Pn→List Pn
 | [] => []
 | [p] => [p]
 | p::q::l=>if p=q then QG (q::l) else p::QG (q::l)
theorem zp:∀(l:List Pn) (r:Pn),r∈QG l↔r∈l
 | [],_=>Iff.rfl
 | [_],_=>Iff.rfl
 | p::q::l,r=>by
  unfold QG
  split
  ·rename_i e
   rw [zp (q::l) r,e]
   simp
  ·rw [je0,zp (q::l) r]
   simp
def Ris (l:List Pn) :Prop:=l.Pairwise fun p q=>¬wq q p
theorem OU:∀ {l:List Pn},Ris l→Asc (QG l)
 | [],_=>List.Pairwise.nil
 | [p],_=>jf5 _ _
 | p::q::l,h=>by
  have h1:=jff.1 h
  have ih:=OU (l:=q::l) h1.2
  unfold QG
  split
  ·exact ih
  ·rename_i hne
   refine jff.2 ⟨fun r hr=> ?_,ih⟩
   rw [zp] at hr
   have hpq:wq p q:=by
    rcases Uc p q with h2 | h2 | h2
    ·exact h2
    ·exact absurd h2 hne
    ·exact absurd h2 (h1.1 q (by simp))
   rcases je0.1 hr with e | hr
   ·rw [e];exact hpq
   ·have h3:= (jff.1 h1.2).1 r hr
    unfold wq at*
    omega
theorem CO {l m:List Pn} (hs:Ris m) (hp:∀q,q∈m↔q∈l) :QG m=kh l:=
 Tc (OU hs) (ZJ l) fun q=>by rw [zp,hp,yD]
theorem SK (x:Int) :0≤x*x:=by
 rcases Int.le_total 0 x with h | h
 ·exact jfl h h
 ·have:=jfl (show 0≤-x by omega) (show 0≤-x by omega)
  grind
def NV (a b c d:Pn) :Int:=zV a.1 a.2 b.1 b.2 c.1 c.2 d.1 d.2
def crN (a c d:Pn) :Int:=GQ a.1 a.2 c.1 c.2 d.1 d.2
def Da (a b c d:Pn) :Pn:= (M1 a.1 b.1 (crN a c d) (NV a b c d),M1 a.2 b.2 (crN a c d) (NV a b c d))
theorem XJ (a b c d:Pn) :NV a b c d=tn c d a- tn c d b:=by
 unfold NV zV tn Kd
 grind
theorem Zn (a c d:Pn) :crN a c d=tn c d a:=by
 unfold crN GQ tn Kd
 grind
theorem uU {a b c d:Pn} (h:qM a b c d=true) :NV a b c d≠0:=by
 rw [XJ]
 simp only [qM,jeF,decide_eq_true_eq] at h
 intro e
 have e':tn c d a=tn c d b:=by omega
 rw [e'] at h
 have:=SK (Wh (tn c d b))
 omega
theorem EA {a b c d:Pn} (h:Q1 a b c d=2) : (Q0 a b c d).length=0∧NV a b c d≠0:=by
 unfold Q1 at h
 split at h
 ·rename_i h0
  split at h
  ·rename_i h1;exact⟨h0,uU h1⟩
  ·omega
 ·split at h<;>omega
def zJ (p:Pn) :Prop:= (-1152921504606846976≤p.1∧p.1≤1152921504606846976)∧-1152921504606846976≤p.2∧p.2≤1152921504606846976
theorem bd2.wide {p:Pn} (h:bd2 p) :zJ p:=by
 obtain ⟨⟨h1,h2⟩,h3,h4⟩ :=h
 exact⟨⟨by omega,by omega⟩,by omega,by omega⟩
theorem CQ {x y n d:Int} (hx: -262144≤x∧x≤262144) (hy: -262144≤y∧y≤262144) (hn: -549755813888≤n∧n≤549755813888) (hd:d≠0) : -1152921504606846976≤M1 x y n d∧M1 x y n d≤1152921504606846976:=by
 rw [RQ _ _ _ _ hd]
 split
 ·have h1:=kg (a:=y- x) (b:= -n) (A:=524288) (B:=549755813888) (by omega) (by omega) (by omega) (by omega)
  have h2:=Gc ((y- x) * -n) (-d) 288230376151711744 (by omega) (by omega) (by omega)
  omega
 ·have h1:=kg (a:=y- x) (b:=n) (A:=524288) (B:=549755813888) (by omega) (by omega) (by omega) (by omega)
  have h2:=Gc ((y- x) *n) d 288230376151711744 (by omega) (by omega) (by omega)
  omega
theorem SP {a b c:Pn} (ha:bd2 a) (hb:bd2 b) (hc:bd2 c) : -549755813888≤tn a b c∧tn a b c≤549755813888:=by
 obtain ⟨⟨a1,a2⟩,a3,a4⟩ :=ha
 obtain ⟨⟨b1,b2⟩,b3,b4⟩ :=hb
 obtain ⟨⟨c1,c2⟩,c3,c4⟩ :=hc
 exact jdI _ _ _ _ _ _ a1 a2 a3 a4 b1 b2 b3 b4 c1 c2 c3 c4
theorem jc3 {a b c d:Pn} (ha:bd2 a) (hb:bd2 b) (hc:bd2 c) (hd:bd2 d) (h:NV a b c d≠0) :zJ (Da a b c d) :=by
 have hn:=SP hc hd ha
 rw [←Zn] at hn
 exact⟨CQ ha.1 hb.1 hn h,CQ ha.2 hb.2 hn h⟩
theorem yj {p:Pn} (h:bd2 p) :wU p.1 p.2=true:=by
 obtain ⟨⟨h1,h2⟩,h3,h4⟩ :=h
 simp [wU,XA, *]
theorem RP (a b c d:Pn) (w:World) (ha:bd2 a) (hb:bd2 b) (hc:bd2 c) (hd:bd2 d) (h:NV a b c d≠0) :Calls Tryz.prog 74 #[pV a,pV b,pV c,pV d] w fun e w'=>e= .returned (pV (Da a b c d))∧Over w w':=
 Db a.1 a.2 b.1 b.2 c.1 c.2 d.1 d.2 w (yj ha) (yj hb) (yj hc) (yj hd) h
theorem Oh (a b c d:Pn) (w:World) (ha:bd2 a) (hb:bd2 b) (hc:bd2 c) (hd:bd2 d) (h:Q1 a b c d=2) :Calls Tryz.prog 97 #[pV a,pV b,pV c,pV d] w fun e w'=>e= .returned (pV (Da a b c d))∧Over w w':=by
 obtain ⟨h0,hD⟩ :=EA h
 have n1:=SP hc hd ha
 have n2:=SP hc hd hb
 have eD:=XJ a b c d
 have eN:=Zn a c d
 have e1:=RQ a.1 b.1 (crN a c d) (NV a b c d) hD
 have e2:=RQ a.2 b.2 (crN a c d) (NV a b c d) hD
 have f1:=ha;have f2:=hb
 obtain ⟨⟨a1,a2⟩,a3,a4⟩ :=f1
 obtain ⟨⟨b1,b2⟩,b3,b4⟩ :=f2
 have x1:=kg (a:=b.1- a.1) (b:=tn c d a) (A:=524288) (B:=549755813888) (by omega) (by omega) (by omega) (by omega)
 have x2:=kg (a:=b.2- a.2) (b:=tn c d a) (A:=524288) (B:=549755813888) (by omega) (by omega) (by omega) (by omega)
 have x3:=kg (a:=b.1- a.1) (b:= -tn c d a) (A:=524288) (B:=549755813888) (by omega) (by omega) (by omega) (by omega)
 have x4:=kg (a:=b.2- a.2) (b:= -tn c d a) (A:=524288) (B:=549755813888) (by omega) (by omega) (by omega) (by omega)
 rw [eD,eN] at e1 e2
 have hD':tn c d a- tn c d b≠0:=eD▸hD
 have eP:Da a b c d= (M1 a.1 b.1 (tn c d a) (tn c d a- tn c d b),M1 a.2 b.2 (tn c d a) (tn c d a- tn c d b)) :=by rw [Da,eD,eN]
 refine jU (m:=64) (Tryz.func97) J J (lb J) ?_;refine S3 ?_;refine aX (fun b1=> ?_);refine N1 ?_;refine aX (fun b2=> ?_);refine N1 ?_;refine aX (fun b3=> ?_);refine N1 ?_;refine aX (fun b4=> ?_);refine N1 ?_;refine aL (fun b5=> ?_);refine N8 ?_;refine jP yW (v:=fun x=> .slice x.1 _ x.2) (r:=fun x=>JP 0 54 2 _ _ x) (H:=fun _=>True) J J J (lb J) (fun w1 hs=>qS (GA a b c d w1 ha hb hc hd)) ?_
 rintro⟨eA,ec⟩ -
 refine N9 ?_;refine cZ (fun c1=> ?_) (fun c1=> ?_)
 ·omega
 ·refine S7 ?_;refine a9 (jH Qi J J (fun w h=>wJ _ _ _ w hc hd ha)) ?_;refine S8 ?_;refine a9 (jH Qi J J (fun w h=>wJ _ _ _ w hc hd hb)) ?_;refine S9 ?_;refine cZ (fun c2=> ?_) (fun c2=> ?_)
  ·have r1:=Gc ((b.1- a.1) * -tn c d a) (-(tn c d a- tn c d b)) 288230376151711744 (by omega) (by omega) (by omega)
   have r2:=Gc ((b.2- a.2) * -tn c d a) (-(tn c d a- tn c d b)) 288230376151711744 (by omega) (by omega) (by omega)
   rw [if_pos c2] at e1 e2
   refine S3 ?_;refine a9 (YT J J (by omega) (by omega)) ?_;refine S4 ?_;refine a9 (YT J J (by omega) (by omega)) ?_;refine S4 ?_;refine Q8 26 [4] ?_;refine dK 0 ?_;refine dK 1 ?_;refine dK 2 ?_;refine dK 3 ?_;refine dK 4 ?_;refine dK 5 ?_;refine dK 6 ?_;refine dK 7 ?_;refine dK 8 ?_;refine dK 9 ?_;refine dZ 10 J (jH VC J J (fun w h=>Calls.still (uq _ _ w (by omega) (by omega) (by omega) (by omega)))) ?_;refine dK 11 ?_;refine dK 12 ?_;refine dK 13 ?_;refine dK 14 ?_;refine dK 15 ?_;refine dK 16 ?_;refine dK 17 ?_;refine dK 18 ?_;refine dK 19 ?_;refine dK 20 ?_;refine dK 21 ?_;refine dZ 22 J (jH VC J J (fun w h=>Calls.still (uq _ _ w (by omega) (by omega) (by omega) (by omega)))) ?_;refine dK 23 ?_;refine dZ 24 J (JV J J (kX J J)) ?_;refine Jh (i:=25) J (by decide) (by kernel_rfl) J ?_;refine S1 ?_;refine jJ (uw [4] J) ?_;refine Jj (by kernel_rfl) ?_;refine S2 ?_;refine jL J (J3 (k:=4) J jl J J) ?_
   intro w' hs
   exact⟨by rw [eP,e1,e2],hs.fin⟩
  ·have r1:=Gc ((b.1- a.1) *tn c d a) (tn c d a- tn c d b) 288230376151711744 (by omega) (by omega) (by omega)
   have r2:=Gc ((b.2- a.2) *tn c d a) (tn c d a- tn c d b) 288230376151711744 (by omega) (by omega) (by omega)
   rw [if_neg (jfx.2 c2)] at e1 e2
   refine S4 ?_;refine Q8 26 [4] ?_;refine dK 0 ?_;refine dK 1 ?_;refine dK 2 ?_;refine dK 3 ?_;refine dK 4 ?_;refine dK 5 ?_;refine dK 6 ?_;refine dK 7 ?_;refine dK 8 ?_;refine dK 9 ?_;refine dZ 10 J (jH VC J J (fun w h=>Calls.still (uq _ _ w (by omega) (by omega) (by omega) (by omega)))) ?_;refine dK 11 ?_;refine dK 12 ?_;refine dK 13 ?_;refine dK 14 ?_;refine dK 15 ?_;refine dK 16 ?_;refine dK 17 ?_;refine dK 18 ?_;refine dK 19 ?_;refine dK 20 ?_;refine dK 21 ?_;refine dZ 22 J (jH VC J J (fun w h=>Calls.still (uq _ _ w (by omega) (by omega) (by omega) (by omega)))) ?_;refine dK 23 ?_;refine dZ 24 J (JV J J (kX J J)) ?_;refine Jh (i:=25) J (by decide) (by kernel_rfl) J ?_;refine S1 ?_;refine jJ (uw [4] J) ?_;refine Jj (by kernel_rfl) ?_;refine S2 ?_;refine jL J (J3 (k:=4) J jl J J) ?_
   intro w' hs
   exact⟨by rw [eP,e1,e2],hs.fin⟩
section
variable {P:Program} {n:Nat} {env:List (Nat×Value)} {w0:Bs} {Rs:List Res} {ops:Array Oper} {Q:Exit→Act→World→Prop} {K:Act→World→Prop} {o:Oper}
theorem WZ {f k d:Nat} (hfn:FnOk P f) {xs:List Operand} {vs:List Value} {ts:Array TypeId} {X:Type} {v:X→Value} {r:Res} {r':X→Res} (ho:o.op= .call {callee:= .value (.func f),args:=xs.toArray,argTypes:=ts}) (hx:RE env xs=some vs) (hd:o.dst=some d) (hn:d<n)
  (hk:Rs[k]? =some r) (hc:∀w,St w0 Rs w→Calls P f vs.toArray w fun e w'=>∃x,e= .returned (v x)∧Wrs r.F w w'∧(r' x).P w'∧(∀b,(r' x).F b→r.F b∨w.heap.size≤b)∧(r' x).B=0)
  (h:∀x,At n ((d,v x) ::env) w0 (Rs.set k (r' x)) K) :At n env w0 Rs (fun a w=>o.wp P a w K Q) :=fun a w hF' hs=>by
 show o.upon P a K Q ((execOp a.eval o).run P w)
 rw [YY hfn ho hx hF']
 refine Calls.mono (hc w hs) ?_
 rintro e w' ⟨x,rfl,hw,hp,hF,hB⟩
 have hlow:= (hs.all k _ hk).2.1
 show K (a.put o.dst (v x)) w'
 rw [hd]
 refine h x _ _ (hF'.put hn _) (hs.upd hk ⟨hw.os.trans hs.over.os,hw.tape.trans hs.over.tape,hw.output.trans hs.over.output,jft hs.over.size hw.size,fun c hc' hx'=> ?_⟩ hw.size (fun c hc' hne=>hw.block c hc' hne) hp (fun c hc'=>hF c hc') hB)
 rw [hw.block c (jeR hc' hs.over.size) (fun e=> (hlow c e).elim (fun h1=>by omega) (fun h1=>hx' h1))]
 exact hs.over.block c hc' hx'
theorem Ct (k:Nat) {B T s m:Nat} {v:Value} {xs:List Value} (hk:Rs[k]? =some (.row B T s v m xs)) (h:At n env w0 (Rs.set k (.row 0 T s v m xs)) K) :At n env w0 Rs K:=fun a w hf hs=>
 h a w hf (hs.chg hk (fun hP=>Ui hP (jeE _)) (fun c hc=>hc) rfl)
end
theorem NJ {n:Nat} {env:List (Nat×Value)} {w0:Bs} {Rs:List Res} {K:Act→World→Prop} (h:∀w1,St w0 Rs w1→At n env ⟨w1,[]⟩ [] K) :At n env w0 Rs K:=fun a w hf hs=>h w hs a w hf (St.start w)
abbrev Ur (xs:List Pn) (x:Nat×Nat) :Res:=JP 0 54 2 xs.length (xs.flatMap j7) (some ⟨x.1,0,none⟩,x.2)
theorem wK (p q:Pn) (w:World) :Calls Tryz.prog 99 #[pV p,pV q] w fun e w'=>e= .returned (.bool (decide (wq p q)))∧Over w w':=by
 refine jU (m:=24) (Tryz.func99) J J (lb J) ?_;refine S3 ?_;refine aX (fun b1=> ?_);refine N1 ?_;refine aX (fun b2=> ?_);refine N10 ?_;refine cV 10 (fun g1=> ?_) (fun g1=> ?_)
 ·refine S16 ?_;refine jL J (.tmp J) ?_
  intro w' hs
  exact⟨congrArg Ending.returned (congrArg Value.bool (jfo.2 (Iff.trans (b:=wq p q) (by simp [wq];omega) decide_eq_true_iff.symm))),hs.fin⟩
 ·refine S12 ?_;refine cV 16 (fun g2=> ?_) (fun g2=> ?_)
  ·refine S16 ?_;refine jL J (.tmp J) ?_
   intro w' hs
   exact⟨congrArg Ending.returned (congrArg Value.bool (jfo.2 (Iff.trans (b:=wq p q) (by simp [wq];omega) decide_eq_true_iff.symm))),hs.fin⟩
  ·refine S11 ?_;refine jL J (.tmp J) ?_
   intro w' hs
   exact⟨congrArg Ending.returned (congrArg Value.bool (jfo.2 (Iff.trans (b:=wq p q) (by simp [wq];omega) decide_eq_true_iff.symm))),hs.fin⟩
theorem PB {xs:List Pn} {p:Pn} {k:Nat} (h:¬(0<k∧wq p (pt xs (k- 1)))) :VM xs p k=k:=by
 cases k with
 | zero=>rfl
 | succ k=>
  rw [VM,if_neg]
  intro h1
  exact h ⟨by omega,h1⟩
theorem PA {xs:List Pn} {p:Pn} {k:Nat} (h:0<k∧wq p (pt xs (k- 1))) :VM xs p (k- 1) =VM xs p k:=by
 cases k with
 | zero=>rfl
 | succ k=>
  show VM xs p k=VM xs p (k+1)
  rw [VM,if_pos (show wq p (pt xs k) from h.2)]
theorem jej {xs:List Pn} {j:Nat} {p:Pn} : ((px xs j==p.1) && (py xs j==p.2)) =decide (pt xs j=p) :=by
 rw [jfo]
 simp [pt,Prod.ext_iff]
theorem jab {xs:List Pn} {p:Pn} {k:Nat} (h:k=VM xs p xs.length) (hk:0<k∧pt xs (k- 1) =p) :vy xs p=xs:=by
 subst h
 rw [vy,if_pos hk]
theorem jaa {xs:List Pn} {p:Pn} {k:Nat} (h:k=VM xs p xs.length) (hk:¬(0<k∧pt xs (k- 1) =p)) :vy xs p=xs.take k++p::xs.drop k:=by
 subst h
 rw [vy,if_neg hk]
theorem Zt (g c n:Nat) (xs:List Pn) (p:Pn) (w:World) (h:Pts w (some ⟨g,0,none⟩) n xs) (hc:n≤c) (hn:n≤1048576) :
  Calls Tryz.prog 94 #[.slice (some ⟨g,0,none⟩) n c,pV p] w fun e w'=> (e= .returned (.slice (some ⟨g,0,none⟩) n c)∧vy xs p=xs∧Over w w')∨∃v,e= .returned v∧w'.ownsRow w.heap.size 54 2 v (vy xs p).length ((vy xs p).flatMap j7)∧Over w w':=by
 have hl:=h.1
 refine jU (m:=48) (Tryz.func94) J J (lb J) ?_;refine S3 ?_;refine aX (fun b1=> ?_);refine N10 ?_;refine qi (X:=Nat) (fun k=>k≤n∧VM xs p k=VM xs p n) (fun k=>k) (fun k=> [(5, .int .i64 (k:Int))]) (kK [0,3,4]) n (⟨jeD _,J⟩) ⟨J,sz⟩ ?_
 intro k hk L hL1
 refine V1 ?_;refine qd [(19, .bool (decide (0<k∧wq p (pt xs (k- 1)))))] (kK [0,3,4,5]) (fun L h_2=> ?_) ?_
 ·refine S1 ?_;refine Jw 11 ?_;refine dK 0 ?_;refine dK 1 ?_;refine dK 2 ?_;refine cV 11 (fun g1=> ?_) (fun g1=> ?_)
  ·refine eK 3 ?_;refine eK 4 ?_;refine eK 5 ?_;refine eZ 6 J ((JC J J J (by omega) (by omega)).as (congrArg _ (show((k:Int) - 1) = ((k- 1:Nat) :Int) by omega))) ?_;refine eK 7 ?_;refine eZ 8 J (jj J J jl J (Vm h (by omega))) ?_;refine eZ 9 J (jH kT J J (fun w _=>wK p (pt xs (k- 1)) w)) ?_;refine dK 10 ?_;refine Jj (by kernel_rfl) ?_;refine S1 ?_
   exact Jb h_2 ⟨vb (by simp;omega),sz⟩ (u9 J)
  ·refine fK 3 ?_;refine fK 4 ?_;refine fK 5 ?_;refine fK 6 ?_;refine fK 7 ?_;refine fK 8 ?_;refine fK 9 ?_;refine dK 10 ?_;refine Jj (by kernel_rfl) ?_;refine S1 ?_
   exact Jb h_2 ⟨vb (by simp;omega),sz⟩ (u9 J)
 ·refine v9 ?_;refine cZ (fun c1=> ?_) (fun c1=> ?_)
  ·refine S10 ?_
   exact J8 hL1 (k- 1) (⟨by omega,(PA c1).trans hk.2⟩) (by omega) ⟨vi (by omega),sz⟩ (u9 J)
  ·have hpos:k=VM xs p xs.length:=by rw [hl,←hk.2,PB c1]
   refine S6 ?_;refine qd [(32, .bool (decide (0<k∧pt xs (k- 1) =p)))] (kK [0,3,4,5]) (fun L h_4=> ?_) ?_
   ·refine S1 ?_;refine Jw 11 ?_;refine dK 0 ?_;refine dK 1 ?_;refine dK 2 ?_;refine cV 24 (fun g2=> ?_) (fun g2=> ?_)
    ·refine eK 3 ?_;refine eK 4 ?_;refine eZ 5 J ((JC J J J (by omega) (by omega)).as (congrArg _ (show((k:Int) - 1) = ((k- 1:Nat) :Int) by omega))) ?_;refine eK 6 ?_;refine eZ 7 J (jj J J jl J (Vm h (by omega))) ?_;refine eK 8 ?_;refine eK 9 ?_;refine dK 10 ?_;refine Jj (by kernel_rfl) ?_;refine S1 ?_
     exact Jb h_4 ⟨vb (by rw [jej];simp;omega),sz⟩ (u9 J)
    ·refine fK 3 ?_;refine fK 4 ?_;refine fK 5 ?_;refine fK 6 ?_;refine fK 7 ?_;refine fK 8 ?_;refine fK 9 ?_;refine dK 10 ?_;refine Jj (by kernel_rfl) ?_;refine S1 ?_
     exact Jb h_4 ⟨vb (by rw [decide_eq_false (fun h=>absurd h.1 (by omega))]),sz⟩ (u9 J)
   ·refine v9 ?_;refine cZ (fun c2=> ?_) (fun c2=> ?_)
    ·refine S7 ?_;refine jL J (.tmp J) ?_
     intro w' hs
     exact .inl ⟨rfl,jab hpos c2,hs.fin⟩
    ·have hput:=jaa hpos c2
     have hpl: (vy xs p).length=0+k+1+ (n- k) :=by rw [hput,jeC,jeP,jeV,je2];omega
     refine S5 ?_;refine Jp J J (kt) J (lb J) (fun b2=> ?_);refine vR 1 2 J J ?_;refine N2 ?_;refine a9 ((kb J J J jt (by omega)).as (VG _ _ _ _ _)) ?_;refine S1 ?_;refine JL (k:=1) J jt jO (by decide) J (by decide) J J J (fun w' hs=>H5 (h.over hs.fin) (by omega)) (Kk _) (by unfold maxLen;omega) (by omega) (jeD _) (fun r1=> ?_);refine N7 ?_;refine Jp J J (qP J) J (lb J) (fun b3=> ?_);refine N1 ?_;refine JL (k:=1) J jt jO (by decide) J (by decide) J J J (fun w' hs=>q6 hs (k:=2) J J) (by simp [Value.oneCell']) (by unfold maxLen;omega) (by omega) (jeD _) (fun r2=> ?_);refine N7 ?_;refine a9 ((KL J J J jt (by omega)).as (wg (b:=g) (o:=0) (l:=k) (h:=n) (m:=c) (s:=2) hc (by omega))) ?_;refine S1 ?_;refine JL (k:=1) J jt jO (by decide) J (by decide) J J J (fun w' hs=>Nm (h.over hs.fin) (by omega) hc) (Kk _) (by unfold maxLen;omega) (by omega) (jeD _) (fun r3=> ?_);refine N3 ?_;refine jL J (.tmp J) ?_
     intro w' hs
     have hr:= (hs.all 1 _ rfl).1
     exact .inr ⟨_,rfl,by rw [hpl,hput,jeQ,je4,←jeN];exact hr,hs.fin⟩
theorem jb2 {g c:Nat} {xs:List Pn} {p:Pn} {w:World} (h: (Ur xs (g,c)).P w) (hn:xs.length≤1048576) :
  Calls Tryz.prog 94 #[.slice (some ⟨g,0,none⟩) xs.length c,pV p] w fun e w'=>∃x:Nat×Nat,e= .returned (.slice (some ⟨x.1,0,none⟩) (vy xs p).length x.2)∧Wrs (Ur xs (g,c)).F w w'∧(Ur (vy xs p) x).P w'∧(∀b,(Ur (vy xs p) x).F b→(Ur xs (g,c)).F b∨w.heap.size≤b)∧(Ur (vy xs p) x).B=0:=by
 refine(Zt g c xs.length xs p w (vx h J) (wC h) hn).mono ?_
 rintro e w' (⟨rfl,hp,hO⟩ |⟨v,rfl,hr,hO⟩)
 ·refine⟨(g,c),by rw [hp],Wrs.of hO,?_,fun b hb=> .inl (by rw [hp] at hb;exact hb),J⟩
  rw [hp]
  exact(Ur xs (g,c)).dep w w' h hO.size fun b hb _=>hO.out.block b hb
 ·obtain ⟨x,rfl⟩ :=WL hr
  have h0:0< (vy xs p).length:=List.length_pos_of_mem (x6.2 (.inr rfl))
  have hs:∃g2,x.1=some ⟨g2,0,none⟩ :=by
   rcases hr.2 with⟨_,e⟩ |⟨g2,cap,cur,e,_⟩
   ·omega
   ·injection e with e1
    exact⟨g2,e1⟩
  obtain ⟨g2,hg2⟩ :=hs
  obtain ⟨xA,xc⟩ :=x
  simp only at hg2
  subst hg2
  exact⟨(g2,xc),rfl,Wrs.of hO,Ui hr (jeE _),fun b hb=> .inr (hr.lt b hb).1,rfl⟩
def uI (w1:World) (g:Nat) (xs:List Pn) (x:Nat×Nat) :Res:=if x.1<w1.heap.size then {F:=fun _=>False,P:=fun _=>x.1=g∧(Ur xs x).P w1,low:=fun _ _ _ h=>h.elim,B:=0,dep:=fun _ _ h _ _=>h} else Ur xs x
theorem Dk (w1:World) (g:Nat) (xs:List Pn) (x:Nat×Nat) : (uI w1 g xs x).B=0:=by unfold uI;split<;>rfl
theorem C9 {w1 w':World} {g:Nat} {xs:List Pn} {x:Nat×Nat} (h: (uI w1 g xs x).P w') (hO:Over w1 w') : (Ur xs x).P w'∧(x.1=g∨w1.heap.size≤x.1) :=by
 unfold uI at h
 split at h
 ·exact⟨(Ur xs x).dep w1 w' h.2 hO.size fun b hb _=>hO.out.block b hb, .inl h.1⟩
 ·rename_i hn
  exact⟨h, .inr (by omega)⟩
theorem jda {xs:List Pn} {x:Nat×Nat} {b:Nat} (h: (Ur xs x).F b) :b=x.1:=by
 have h:some x.1=some b:=h
 injection h with h
 exact h.symm
theorem Il {w1 w':World} {g:Nat} {xs:List Pn} {x:Nat×Nat} (h: (Ur xs x).P w') (hx:w1.heap.size≤x.1) : (uI w1 g xs x).P w':=by
 unfold uI
 rw [if_neg (by omega)]
 exact h
theorem jb1 {w1 w':World} {g c:Nat} {xs:List Pn} {p:Pn} (h: (Ur xs (g,c)).P w1) (hO:Over w1 w') (hn:xs.length≤1048576) :
  Calls Tryz.prog 94 #[.slice (some ⟨g,0,none⟩) xs.length c,pV p] w' fun e w''=>∃x:Nat×Nat,e= .returned (.slice (some ⟨x.1,0,none⟩) (vy xs p).length x.2)∧Over w' w''∧(uI w1 g (vy xs p) x).P w''∧(∀b,(uI w1 g (vy xs p) x).F b→w'.heap.size≤b)∧(uI w1 g (vy xs p) x).B=0∧True:=by
 have hg:g<w1.heap.size:= (Ur xs (g,c)).low w1 h g rfl
 have h':= (Ur xs (g,c)).dep w1 w' h hO.size fun b hb _=>hO.out.block b hb
 refine(Zt g c xs.length xs p w' (vx h' J) (wC h') hn).mono ?_
 rintro e w'' (⟨rfl,hp,hO'⟩ |⟨v,rfl,hr,hO'⟩)
 ·refine⟨(g,c),by rw [hp],hO',?_,fun b hb=> ?_,Dk _ _ _ _,trivial⟩
  ·rw [hp]
   unfold uI
   rw [if_pos hg]
   exact⟨rfl,h⟩
  ·unfold uI at hb
   rw [if_pos hg] at hb
   exact hb.elim
 ·obtain ⟨x,rfl⟩ :=WL hr
  have h0:0< (vy xs p).length:=List.length_pos_of_mem (x6.2 (.inr rfl))
  obtain ⟨g2,hg2⟩ :∃g2,x.1=some ⟨g2,0,none⟩ :=by
   rcases hr.2 with⟨_,e⟩ |⟨g2,cap,cur,e,_⟩
   ·omega
   ·injection e with e1
    exact⟨g2,e1⟩
  obtain ⟨xA,xc⟩ :=x
  simp only at hg2
  subst hg2
  have hlt:=hr.lt g2 rfl
  refine⟨(g2,xc),J,hO',Il (Ui hr (jeE _)) (jft hO.size hlt.1),fun b hb=> ?_,Dk _ _ _ _,trivial⟩
  unfold uI at hb
  split at hb
  ·exact hb.elim
  ·rw [jda hb];exact hlt.1
theorem PC {w1 w':World} {g g1 c:Nat} {xs:List Pn} {p:Pn} (h: (uI w1 g xs (g1,c)).P w') (hO:Over w1 w') (hn:xs.length≤1048576) :
  Calls Tryz.prog 94 #[.slice (some ⟨g1,0,none⟩) xs.length c,pV p] w' fun e w''=>∃x:Nat×Nat,e= .returned (.slice (some ⟨x.1,0,none⟩) (vy xs p).length x.2)∧Wrs (uI w1 g xs (g1,c)).F w' w''∧(uI w1 g (vy xs p) x).P w''∧(∀b,(uI w1 g (vy xs p) x).F b→(uI w1 g xs (g1,c)).F b∨w'.heap.size≤b)∧(uI w1 g (vy xs p) x).B=0:=by
 have h':= (C9 h hO).1
 refine(Zt g1 c xs.length xs p w' (vx h' J) (wC h') hn).mono ?_
 rintro e w'' (⟨rfl,hp,hO'⟩ |⟨v,rfl,hr,hO'⟩)
 ·refine⟨(g1,c),by rw [hp],Wrs.of hO',?_,fun b hb=> .inl (by rw [hp] at hb;exact hb),Dk _ _ _ _⟩
  rw [hp]
  exact(uI w1 g xs (g1,c)).dep w' w'' h hO'.size fun b hb _=>hO'.out.block b hb
 ·obtain ⟨x,rfl⟩ :=WL hr
  have h0:0< (vy xs p).length:=List.length_pos_of_mem (x6.2 (.inr rfl))
  obtain ⟨g2,hg2⟩ :∃g2,x.1=some ⟨g2,0,none⟩ :=by
   rcases hr.2 with⟨_,e⟩ |⟨g2,cap,cur,e,_⟩
   ·omega
   ·injection e with e1
    exact⟨g2,e1⟩
  obtain ⟨xA,xc⟩ :=x
  simp only at hg2
  subst hg2
  have hlt:=hr.lt g2 rfl
  refine⟨(g2,xc),J,Wrs.of hO',Il (Ui hr (jeE _)) (jft hO.size hlt.1),fun b hb=> .inr ?_,Dk _ _ _ _⟩
  unfold uI at hb
  split at hb
  ·exact hb.elim
  ·rw [jda hb];exact hlt.1
theorem ja1 {n:Nat} {env:List (Nat×Value)} {w0:Bs} {Rs Rs2:List Res} {K:Act→World→Prop} {w1:World} (hs1:St w0 Rs w1) (k j:Nat) {g c:Nat} {xs xs2:List Pn} {x2:Nat×Nat} (hk:Rs[k]? =some (Ur xs (g,c))) (hj:Rs2[j]? =some (uI w1 g xs2 x2)) (h:At n env w0 (Rs.set k (Ur xs2 x2)) K) :At n env ⟨w1,[]⟩ Rs2 K:=fun a w' hf hs=>by
 have hO:Over w1 w':=hs.fin
 obtain ⟨hP,hx⟩ :=C9 (hs.all j _ hj).1 hO
 refine h a w' hf (hs1.upd hk ⟨hO.out.os.trans hs1.over.os,hO.out.tape.trans hs1.over.tape,hO.out.output.trans hs1.over.output,jft hs1.over.size hO.size,fun c hc' hx'=> ?_⟩ hO.size (fun b hb _=>hO.out.block b hb) hP (fun b hb=> ?_) J)
 ·exact(hO.out.block c (jeR hc' hs1.over.size)).trans (hs1.over.block c hc' hx')
 ·have e:=jda hb
  rcases hx with h1 | h1
  ·left;show some g=some b;rw [e,h1]
  ·right;omega
def cz (ls:List Leg) (i:Nat) :Nat→List Pn
 | 0=> []
 | k+1=>cz ls i k++ (if Q1 (lA (lg ls i)) (lB (lg ls i)) (lA (lg ls k)) (lB (lg ls k)) =2 then [Da (lA (lg ls i)) (lB (lg ls i)) (lA (lg ls k)) (lB (lg ls k))] else [])
def Yf (ls:List Leg) :Nat→List Pn
 | 0=> []
 | i+1=>Yf ls i++ [lA (lg ls i),lB (lg ls i)] ++cz ls i i
theorem RS (ls:List Leg) (i:Nat) :∀k,(cz ls i k).length≤k
 | 0=>jeD _
 | k+1=>by
  have:=RS ls i k
  unfold cz
  rw [jeC]
  split<;>simp<;>omega
theorem zt (ls:List Leg) :∀i,(Yf ls i).length≤i* (i+2)
 | 0=>jeD _
 | i+1=>by
  have h1:=zt ls i
  have h2:=RS ls i i
  unfold Yf
  rw [jeC,jeC]
  simp only [jeP,je6]
  have e: (i+1) * (i+1+2) =i* (i+2) +2*i+3:=by simp only [Nat.add_mul,Nat.mul_add];omega
  omega
def W7 (ls:List Leg) (i k:Nat) :List Pn:=Yf ls i++ [lA (lg ls i),lB (lg ls i)] ++cz ls i k
theorem TY {ls:List Leg} {i k:Nat} (hi:i<400) (hk:k≤i) : (W7 ls i k).length≤170000:=by
 have h1:=zt ls i
 have h2:=RS ls i k
 have h3:i* (i+2)≤400*402:=Nat.mul_le_mul (by omega) (by omega)
 unfold W7
 rw [jeC,jeC]
 simp only [jeP,je6]
 omega
theorem Rc (xs:List Pn) (p:Pn) : (vy xs p).length≤xs.length+1:=by
 have:=HZ xs p xs.length
 unfold vy
 split
 ·omega
 ·rw [jeC,jeP,jeV,je2];omega
theorem NZ (l:List Pn) :∀xs,(l.foldl vy xs).length≤xs.length+l.length:=by
 induction l with
 | nil=>intro xs;exact jeD _
 | cons p l ih=>
  intro xs
  have h1:=ih (vy xs p)
  have h2:=Rc xs p
  rw [jfD,jeP]
  omega
theorem ZK (l:List Pn) : (kh l).length≤l.length:=by have:=NZ l [];simpa [kh] using this
theorem Sy (l:List Pn) (p:Pn) :kh (l++ [p]) =vy (kh l) p:=by simp [kh,jgm]
theorem Rb (ls:List Leg) (i:Nat) :kh (W7 ls i 0) =vy (vy (kh (Yf ls i)) (lA (lg ls i))) (lB (lg ls i)) :=by
 simp [W7,cz,kh,jgm]
theorem Mn {ls:List Leg} {i k:Nat} (h:Q1 (lA (lg ls i)) (lB (lg ls i)) (lA (lg ls k)) (lB (lg ls k)) =2) :kh (W7 ls i (k+1)) =vy (kh (W7 ls i k)) (Da (lA (lg ls i)) (lB (lg ls i)) (lA (lg ls k)) (lB (lg ls k))) :=by
 rw [←Sy,W7,cz,if_pos h,←jeN]
 rfl
theorem Bv {ls:List Leg} {i k:Nat} (h:¬Q1 (lA (lg ls i)) (lB (lg ls i)) (lA (lg ls k)) (lB (lg ls k)) =2) :kh (W7 ls i (k+1)) =kh (W7 ls i k) :=by
 rw [W7,cz,if_neg h,je8]
 rfl
theorem jcB {w:World} {b o n:Nat} {ls:List Leg} (h:Legs w (some ⟨b,o,none⟩) n ls) (hn:0<n) :b<w.heap.size:=by
 obtain ⟨b',o',e,hb,_⟩ :=h.2 hn
 injection e with e
 injection e with e1 e2
 subst e1
 exact hb
theorem KS {w:World} {B N T s n:Nat} {v:Value} {xs:List Value} (h:w.ownsRow B T s v n xs) (hN:∀b,v.ownBlock=some b→N≤b) :w.ownsRow N T s v n xs:=by
 refine⟨h.1,?_⟩
 rcases h.2 with e |⟨g,cap,cur,rfl,hb,rest⟩
 ·exact .inl e
 ·exact .inr ⟨g,cap,cur,rfl,hN g rfl,rest⟩
theorem Se (A:Option Addr) (n c:Nat) (ls:List Leg) (w:World) (h:Legs w A n ls) (hok:∀l∈ls,qO l) (hn:n≤400) :
  Calls Tryz.prog 59 #[.slice A n c] w fun e w'=>∃v,e= .returned v∧w'.ownsRow w.heap.size 54 2 v (kh (Yf ls n)).length ((kh (Yf ls n)).flatMap j7)∧Over w w':=by
 have hl:=h.1
 refine jU (m:=81) (Tryz.func59) J J (lb J) ?_;refine S7 ?_;refine Jp J J (kt) J (lb J) (fun b1=> ?_);refine vR 0 2 J J ?_;refine N2 ?_;refine Ct 0 J ?_;refine ji (by simp only [jeL,jeG,jeM,jeO,jeJ,jeI,Value.cells,jeK];rfl) ?_;refine S6 ?_;refine JI (X:=Nat×Nat×Nat) (fun x=>x.1≤n) (fun x=>n- x.1) (fun x=> [(3, .slice (some ⟨x.2.1,0,none⟩) (kh (Yf ls x.1)).length x.2.2),(4, .int .i64 (x.1:Int))]) (kK [0,2]) (fun x=> [Ur (kh (Yf ls x.1)) x.2]) (0,b1,0) (jeE _) ⟨J,sz⟩ (fun _ h=>h) ?_
 intro⟨i,g,gc⟩ hi L hL1
 refine v9 ?_;refine ji (by first | (dsimp only;done) | (dsimp only;rfl) | rfl) ?_
 have hi:i≤n:=hi
 refine S8 ?_;refine cZ (fun c1=> ?_) (fun c1=> ?_)
 ·have hlt:i<n:= (by omega)
  obtain ⟨eb,eo,rfl,_⟩ :=h.2 (by omega)
  have hhl:=zt ls i
  have hh2:i* (i+2)≤400*402:=Nat.mul_le_mul (by omega) (by omega)
  have hpa:=ZK (Yf ls i)
  have hpb:=Rc (kh (Yf ls i)) (lA (lg ls i))
  refine S12 ?_
  refine NJ fun w1 hs1=> ?_
  have h1:=h.over hs1.fin
  have hp1:= (hs1.all 0 _ rfl).1
  refine S1 ?_;refine Jw 10 ?_;refine dV 0 [5] ?_;refine dV 1 [2,3,4,5] ?_;refine dV 2 [3,4,5] ?_;refine dV 3 [4,5] ?_;refine d9 4 rfl [5] (u9 rfl) (jj rfl rfl jl rfl (by first | exact Qc (b:=eb) (o:=eo) (j:=i) (fun w' hs=>h.over hs.fin) hlt | exact qR (b:=eb) (o:=eo) (j:=i) (fun w' hs=>h.over hs.fin) hlt | exact Qc (b:=eb) (o:=eo) (j:=k) (fun w' hs=>h.over hs.fin) hkl | exact qR (b:=eb) (o:=eo) (j:=k) (fun w' hs=>h.over hs.fin) hkl | exact Qc (b:=eb) (o:=eo) (j:=i) (fun w' hs=>h1.over hs.fin) hlt | exact qR (b:=eb) (o:=eo) (j:=i) (fun w' hs=>h1.over hs.fin) hlt)) ?_;refine dV 6 [7,8,9] ?_;refine dV 7 [8,9] ?_;refine dV 8 [9] ?_;refine dZ 9 rfl (jj rfl rfl jl rfl (by first | exact Qc (b:=eb) (o:=eo) (j:=i) (fun w' hs=>h.over hs.fin) hlt | exact qR (b:=eb) (o:=eo) (j:=i) (fun w' hs=>h.over hs.fin) hlt | exact Qc (b:=eb) (o:=eo) (j:=k) (fun w' hs=>h.over hs.fin) hkl | exact qR (b:=eb) (o:=eo) (j:=k) (fun w' hs=>h.over hs.fin) hkl | exact Qc (b:=eb) (o:=eo) (j:=i) (fun w' hs=>h1.over hs.fin) hlt | exact qR (b:=eb) (o:=eo) (j:=i) (fun w' hs=>h1.over hs.fin) hlt)) ?_;refine Jh (i:=5) J (by decide) (by kernel_rfl) J ?_;refine jP uO (v:=fun x:Nat×Nat=> .slice (some ⟨x.1,0,none⟩) _ x.2) (r:=fun x=>uI w1 _ _ x) (H:=fun _=>True) J J J (lb J) (fun w2 hs=>jb1 (p:=lA (lg ls i)) hp1 hs.fin (by omega)) ?_
  rintro⟨g1,gc1⟩ -
  refine n9 ?_;refine Q5 (u9 J) ?_;refine K4 J (by kernel_rfl) J ?_;refine WZ (k:=0) (v:=fun x:Nat×Nat=> .slice (some ⟨x.1,0,none⟩) _ x.2) (r':=fun x=>uI w1 _ _ x) uO J J J (by decide) J (fun w2 hs=>PC (p:=lB (lg ls i)) (hs.all 0 _ J).1 hs.fin (by omega)) ?_
  rintro⟨g2,gc2⟩
  refine n9 ?_;refine Jw 12 ?_;refine dK 11 ?_;refine Jj (by kernel_rfl) ?_;refine ja1 hs1 0 0 J J ?_;refine ji (by simp only [jeL,jeG,jeM,jeO,jeJ,jeI,Value.cells,jeK];rfl) ?_
  rw [←Rb]
  refine S6 ?_;refine JI (X:=Nat×Nat×Nat) (fun x=>x.1≤i) (fun x=>i- x.1) (fun x=> [(3, .slice (some ⟨x.2.1,0,none⟩) (kh (W7 ls i x.1)).length x.2.2),(6, .int .i64 (x.1:Int))]) (kK [0,2,4,9,10,11,12,15,16,17,5,18,19,20,21,22,24,25,26,27,23,28]) (fun x=> [Ur (kh (W7 ls i x.1)) x.2]) (0,g2,gc2) (jeE _) ⟨J,sz⟩ (fun _ h=>h) ?_
  intro⟨k,g,gc⟩ hk L hL2
  refine v9 ?_;refine ji (by first | (dsimp only;done) | (dsimp only;rfl) | rfl) ?_
  have hk:k≤i:=hk
  refine S7 ?_;refine cZ (fun c2=> ?_) (fun c2=> ?_)
  ·have hkt:k<i:= (by omega)
   have hkl:k<n:= (by omega)
   have hpl:=TY (ls:=ls) (k:=k) (show i<400 by omega) hk
   have hpa:=ZK (W7 ls i k)
   refine S11 ?_;refine qd [(60, .bool (decide (Q1 (lA (lg ls i)) (lB (lg ls i)) (lA (lg ls k)) (lB (lg ls k)) =2)))] (kK [0,2,4,9,10,11,12,15,16,17,5,18,19,20,21,22,24,25,26,27,23,28,3,6,29,30,31,34,35,36,7]) (fun L h_11=> ?_) ?_
   ·refine S1 ?_;refine Jw 24 ?_;refine dK 0 ?_;refine dK 1 ?_;refine dZ 2 J (jH X0 J J (fun w1 hs=>Dt eb _ eb _ (lg ls i) (lg ls k) w1 (y6 (fun w' hs=>h.over hs.fin) hlt w1 hs) (y6 (fun w' hs=>h.over hs.fin) hkl w1 hs) (jcB (h.over hs.fin) (by omega)) (jcB (h.over hs.fin) (by omega)))) ?_;refine dK 3 ?_;refine dK 4 ?_;refine cV 41 (fun g1=> ?_) (fun g1=> ?_)
    ·refine eK 5 ?_;refine eK 6 ?_;refine eK 7 ?_;refine eZ 8 rfl (jj rfl rfl jl rfl (by first | exact Qc (b:=eb) (o:=eo) (j:=i) (fun w' hs=>h.over hs.fin) hlt | exact qR (b:=eb) (o:=eo) (j:=i) (fun w' hs=>h.over hs.fin) hlt | exact Qc (b:=eb) (o:=eo) (j:=k) (fun w' hs=>h.over hs.fin) hkl | exact qR (b:=eb) (o:=eo) (j:=k) (fun w' hs=>h.over hs.fin) hkl | exact Qc (b:=eb) (o:=eo) (j:=i) (fun w' hs=>h1.over hs.fin) hlt | exact qR (b:=eb) (o:=eo) (j:=i) (fun w' hs=>h1.over hs.fin) hlt)) ?_;refine eK 9 ?_;refine eK 10 ?_;refine eK 11 ?_;refine eZ 12 rfl (jj rfl rfl jl rfl (by first | exact Qc (b:=eb) (o:=eo) (j:=i) (fun w' hs=>h.over hs.fin) hlt | exact qR (b:=eb) (o:=eo) (j:=i) (fun w' hs=>h.over hs.fin) hlt | exact Qc (b:=eb) (o:=eo) (j:=k) (fun w' hs=>h.over hs.fin) hkl | exact qR (b:=eb) (o:=eo) (j:=k) (fun w' hs=>h.over hs.fin) hkl | exact Qc (b:=eb) (o:=eo) (j:=i) (fun w' hs=>h1.over hs.fin) hlt | exact qR (b:=eb) (o:=eo) (j:=i) (fun w' hs=>h1.over hs.fin) hlt)) ?_;refine eK 13 ?_;refine eK 14 ?_;refine eK 15 ?_;refine eZ 16 rfl (jj rfl rfl jl rfl (by first | exact Qc (b:=eb) (o:=eo) (j:=i) (fun w' hs=>h.over hs.fin) hlt | exact qR (b:=eb) (o:=eo) (j:=i) (fun w' hs=>h.over hs.fin) hlt | exact Qc (b:=eb) (o:=eo) (j:=k) (fun w' hs=>h.over hs.fin) hkl | exact qR (b:=eb) (o:=eo) (j:=k) (fun w' hs=>h.over hs.fin) hkl | exact Qc (b:=eb) (o:=eo) (j:=i) (fun w' hs=>h1.over hs.fin) hlt | exact qR (b:=eb) (o:=eo) (j:=i) (fun w' hs=>h1.over hs.fin) hlt)) ?_;refine eK 17 ?_;refine eK 18 ?_;refine eK 19 ?_;refine eZ 20 rfl (jj rfl rfl jl rfl (by first | exact Qc (b:=eb) (o:=eo) (j:=i) (fun w' hs=>h.over hs.fin) hlt | exact qR (b:=eb) (o:=eo) (j:=i) (fun w' hs=>h.over hs.fin) hlt | exact Qc (b:=eb) (o:=eo) (j:=k) (fun w' hs=>h.over hs.fin) hkl | exact qR (b:=eb) (o:=eo) (j:=k) (fun w' hs=>h.over hs.fin) hkl | exact Qc (b:=eb) (o:=eo) (j:=i) (fun w' hs=>h1.over hs.fin) hlt | exact qR (b:=eb) (o:=eo) (j:=i) (fun w' hs=>h1.over hs.fin) hlt)) ?_;refine eZ 21 J (jH Zx J J (fun w1 hs=>LL (lA (lg ls i)) (lB (lg ls i)) (lA (lg ls k)) (lB (lg ls k)) w1 (wL (Q6 hok (by omega))) (Wt (Q6 hok (by omega))) (wL (Q6 hok (by omega))) (Wt (Q6 hok (by omega))))) ?_;refine eK 22 ?_;refine dK 23 ?_;refine Jj (by kernel_rfl) ?_;refine S1 ?_
     exact Jb h_11 ⟨vb (by rw [jfo];simp),sz⟩ (u9 J)
    ·refine fK 5 ?_;refine fK 6 ?_;refine fK 7 ?_;refine fK 8 ?_;refine fK 9 ?_;refine fK 10 ?_;refine fK 11 ?_;refine fK 12 ?_;refine fK 13 ?_;refine fK 14 ?_;refine fK 15 ?_;refine fK 16 ?_;refine fK 17 ?_;refine fK 18 ?_;refine fK 19 ?_;refine fK 20 ?_;refine fK 21 ?_;refine fK 22 ?_;refine dK 23 ?_;refine Jj (by kernel_rfl) ?_;refine S1 ?_
     exact Jb h_11 ⟨vb (by rw [RJ g1];rfl),sz⟩ (u9 J)
   ·refine v9 ?_;refine cZ (fun c3=> ?_) (fun c3=> ?_)
    ·refine S1 ?_;refine Jw 18 ?_;refine dK 0 ?_;refine dV 1 [2,3,4,17] ?_;refine dV 2 [3,4,17] ?_;refine dV 3 [4,17] ?_;refine d9 4 rfl [17] (u9 rfl) (jj rfl rfl jl rfl (by first | exact Qc (b:=eb) (o:=eo) (j:=i) (fun w' hs=>h.over hs.fin) hlt | exact qR (b:=eb) (o:=eo) (j:=i) (fun w' hs=>h.over hs.fin) hlt | exact Qc (b:=eb) (o:=eo) (j:=k) (fun w' hs=>h.over hs.fin) hkl | exact qR (b:=eb) (o:=eo) (j:=k) (fun w' hs=>h.over hs.fin) hkl | exact Qc (b:=eb) (o:=eo) (j:=i) (fun w' hs=>h1.over hs.fin) hlt | exact qR (b:=eb) (o:=eo) (j:=i) (fun w' hs=>h1.over hs.fin) hlt)) ?_;refine dV 5 [6,7,8,17] ?_;refine dV 6 [7,8,17] ?_;refine dV 7 [8,17] ?_;refine d9 8 rfl [17] (u9 rfl) (jj rfl rfl jl rfl (by first | exact Qc (b:=eb) (o:=eo) (j:=i) (fun w' hs=>h.over hs.fin) hlt | exact qR (b:=eb) (o:=eo) (j:=i) (fun w' hs=>h.over hs.fin) hlt | exact Qc (b:=eb) (o:=eo) (j:=k) (fun w' hs=>h.over hs.fin) hkl | exact qR (b:=eb) (o:=eo) (j:=k) (fun w' hs=>h.over hs.fin) hkl | exact Qc (b:=eb) (o:=eo) (j:=i) (fun w' hs=>h1.over hs.fin) hlt | exact qR (b:=eb) (o:=eo) (j:=i) (fun w' hs=>h1.over hs.fin) hlt)) ?_;refine dV 9 [10,11,12,17] ?_;refine dV 10 [11,12,17] ?_;refine dV 11 [12,17] ?_;refine d9 12 rfl [17] (u9 rfl) (jj rfl rfl jl rfl (by first | exact Qc (b:=eb) (o:=eo) (j:=i) (fun w' hs=>h.over hs.fin) hlt | exact qR (b:=eb) (o:=eo) (j:=i) (fun w' hs=>h.over hs.fin) hlt | exact Qc (b:=eb) (o:=eo) (j:=k) (fun w' hs=>h.over hs.fin) hkl | exact qR (b:=eb) (o:=eo) (j:=k) (fun w' hs=>h.over hs.fin) hkl | exact Qc (b:=eb) (o:=eo) (j:=i) (fun w' hs=>h1.over hs.fin) hlt | exact qR (b:=eb) (o:=eo) (j:=i) (fun w' hs=>h1.over hs.fin) hlt)) ?_;refine dV 13 [14,15,16,17] ?_;refine dV 14 [15,16,17] ?_;refine dV 15 [16,17] ?_;refine d9 16 rfl [17] (u9 rfl) (jj rfl rfl jl rfl (by first | exact Qc (b:=eb) (o:=eo) (j:=i) (fun w' hs=>h.over hs.fin) hlt | exact qR (b:=eb) (o:=eo) (j:=i) (fun w' hs=>h.over hs.fin) hlt | exact Qc (b:=eb) (o:=eo) (j:=k) (fun w' hs=>h.over hs.fin) hkl | exact qR (b:=eb) (o:=eo) (j:=k) (fun w' hs=>h.over hs.fin) hkl | exact Qc (b:=eb) (o:=eo) (j:=i) (fun w' hs=>h1.over hs.fin) hlt | exact qR (b:=eb) (o:=eo) (j:=i) (fun w' hs=>h1.over hs.fin) hlt)) ?_;refine dZ 17 J (jH zN J J (fun w1 hs=>Oh (lA (lg ls i)) (lB (lg ls i)) (lA (lg ls k)) (lB (lg ls k)) w1 (wL (Q6 hok (by omega))) (Wt (Q6 hok (by omega))) (wL (Q6 hok (by omega))) (Wt (Q6 hok (by omega))) c3)) ?_;refine K4 J (by kernel_rfl) J ?_;refine WZ (k:=0) (v:=fun x:Nat×Nat=> .slice (some ⟨x.1,0,none⟩) _ x.2) (r':=fun x=>Ur _ x) uO J J J (by decide) J (fun w1 hs=>jb2 (p:=Da (lA (lg ls i)) (lB (lg ls i)) (lA (lg ls k)) (lB (lg ls k))) (hs.all 0 _ J).1 (by omega)) ?_
     rintro⟨g3,gc3⟩
     refine n9 ?_;refine Jw 20 ?_;refine dK 19 ?_;refine Jj (by kernel_rfl) ?_;refine S7 ?_
     exact j8 hL2 ((k+1,g3,gc3)) ((show k+1≤i by omega)) (by simp only;omega) ⟨(by rw [Mn c3];rfl),vi (by omega),sz⟩ (fun _ h=>h.upto ⟨by rw [Mn c3],trivial⟩)
    ·refine S8 ?_
     exact j8 hL2 ((k+1,g,gc)) ((show k+1≤i by omega)) (by simp only;omega) ⟨(by rw [Bv c3];rfl),vi (by omega),sz⟩ (fun _ h=>h.upto ⟨by rw [Bv c3],trivial⟩)
  ·refine S11 ?_
   exact j8 hL1 ((i+1,g,gc)) ((show i+1≤n by omega)) (by simp only;omega) ⟨(by rw [show k=i by omega];rfl),vi (by omega),sz⟩ (fun _ h=>h.upto ⟨by rw [show k=i by omega];rfl,trivial⟩)
 ·refine S11 ?_;refine jL J (.tmp J) ?_
  intro w' hs
  have hr:=hs.all 0 _ rfl
  have hin:i=n:=by omega
  exact⟨_,rfl,by rw [←hin];exact KS hr.1 (fun b hb=> (hr.2.1 b hb).elim id (fun h=>by cases h)),hs.fin⟩
end Go.Proofs.YtkagkgjjfdkoaaaGreat
