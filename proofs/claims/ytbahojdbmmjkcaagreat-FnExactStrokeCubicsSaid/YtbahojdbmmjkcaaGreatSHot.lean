import Derived.Test.YtbahojdbmmjkcaaGreatSSnapped
import Derived.Test.YtbahojdbmmjkcaaGreatSSimp
set_option linter.unusedVariables false
set_option linter.unusedSimpArgs false
namespace Go.Proofs.YtbahojdbmmjkcaaGreat
open Go Go.RowKit
variable {K:Act→World→Prop} {Rs:List Res} {c g i k n:Nat} {l xs:List Pn} {ls:List Leg} {p:Pn} {ts:Array TypeId} {v:Value} {vs:List Value} {w w' w1:World} {w0:Bs} {x:Nat×Nat}
set_option maxRecDepth 100000
set_option maxHeartbeats 4000000
def ww (p q:Pn) :Prop:=p.2<q.2∨(p.2=q.2∧p.1<q.1)
instance (p q:Pn) :Decidable (ww p q) :=by unfold ww;exact inferInstance
theorem vY {q r:Pn} (h:ww p q) (h':ww q r) :ww p r:=by unfold ww at*;omega
theorem Q8 (p:Pn) :¬ww p p:=by unfold ww;omega
theorem UE (p q:Pn) :ww p q∨p=q∨ww q p:=by
 rcases p with⟨x,y⟩
 rcases q with⟨x',y'⟩
 simp only [ww,Prod.mk.injEq]
 omega
def Asc (l:List Pn) :Prop:=l.Pairwise ww
theorem Asc.head (h:Asc (p::l)) :∀q∈l,ww p q:= (jiN.1 h).1
theorem Asc.tail (h:Asc (p::l)) :Asc l:= (jiN.1 h).2
theorem PX:∀ {l m:List Pn},Asc l→Asc m→(∀p,p∈l↔p∈m)→l=m
 | [],[],_,_,_=>rfl
 | [],q::m,_,_,h=>absurd ((h q).2 (by simp)) (by simp)
 | p::l,[],_,_,h=>absurd ((h p).1 (by simp)) (by simp)
 | p::l,q::m,hl,hm,h=>by
  have e:p=q:=by
   rcases jis.1 ((h p).1 (by simp)) with e | h1
   ·exact e
   ·rcases jis.1 ((h q).2 (by simp)) with e | h2
    ·exact e.symm
    ·exact absurd (vY (hl.head q h2) (hm.head p h1)) (Q8 p)
  subst e
  congr 1
  refine PX hl.tail hm.tail fun r=> ?_
  constructor
  ·intro hr
   rcases jis.1 ((h r).1 (jiz _ hr)) with e | h1
   ·exact absurd (e▸hl.head r hr) (Q8 _)
   ·exact h1
  ·intro hr
   rcases jis.1 ((h r).2 (jiz _ hr)) with e | h1
   ·exact absurd (e▸hm.head r hr) (Q8 _)
   ·exact h1
def VU (xs:List Pn) (p:Pn) :Nat→Nat
 | 0=>0
 | k+1=>if ww p (pt xs k) then VU xs p k else k+1
theorem L5 (xs:List Pn) (p:Pn) :∀k,VU xs p k≤k
 | 0=>jif _
 | k+1=>by
  unfold VU
  split
  ·have:=L5 xs p k;omega
  ·exact jif _
theorem CR (xs:List Pn) (p:Pn) :∀k j,VU xs p k≤j→j<k→ww p (pt xs j)
 | 0,j,_,h=>absurd h Om
 | k+1,j,h,h'=>by
  unfold VU at h
  split at h
  ·rename_i hp
   by_cases e:j=k
   ·rw [e];exact hp
   ·exact CR xs p k j h Om
  ·omega
theorem CQ (xs:List Pn) (p:Pn) :∀k,0<VU xs p k→¬ww p (pt xs (VU xs p k- 1))
 | 0,h=>absurd h (by simp [VU])
 | k+1,h=>by
  unfold VU at h⊢
  split at h
  ·rename_i hp
   rw [if_pos hp]
   exact CQ xs p k h
  ·rename_i hp
   rw [if_neg hp]
   exact hp
def vx (xs:List Pn) (p:Pn) :List Pn:=if 0<VU xs p xs.length∧pt xs (VU xs p xs.length- 1) =p then xs else xs.take (VU xs p xs.length) ++p::xs.drop (VU xs p xs.length)
theorem kB (h:k<xs.length) :xs[k] =pt xs k:=U5 h
theorem XO {q:Pn} :q∈vx xs p↔q∈xs∨q=p:=by
 unfold vx
 split
 ·rename_i h
  have hle:=L5 xs p xs.length
  constructor
  ·exact .inl
  ·rintro(h1 | rfl)
   ·exact h1
   ·rw [←h.2,←kB Om]
    exact jir _
 ·have:=jiq (VU xs p xs.length) xs
  constructor
  ·intro h1
   rcases jit.1 h1 with h1 | h1
   ·exact .inl (jiL h1)
   ·rcases jis.1 h1 with h1 | h1
    ·exact .inr h1
    ·exact .inl (jiX h1)
  ·rintro(h1 | h1)
   ·rw [←this] at h1
    rcases jit.1 h1 with h2 | h2
    ·exact jit.2 (.inl h2)
    ·exact jit.2 (.inr (jiz _ h2))
   ·rw [h1];simp
theorem jc5 (h:Asc xs) :Asc (vx xs p) :=by
 unfold vx
 split
 ·exact h
 ·rename_i hn
  have hle:=L5 xs p xs.length
  have hs:=jjC.1 ((jiq (VU xs p xs.length) xs).symm▸h:Asc (xs.take (VU xs p xs.length) ++xs.drop (VU xs p xs.length)))
  refine jjC.2 ⟨hs.1,jiN.2 ⟨fun q hq=> ?_,hs.2.1⟩,fun a ha b hb=> ?_⟩
  ·obtain ⟨j,hj,rfl⟩ :=jiU hq
   rw [jiy] at hj
   rw [List.getElem_drop,kB Om]
   exact CR xs p xs.length _ Om Om
  ·rcases jis.1 hb with e | hb
   ·subst e
    obtain ⟨j,hj,rfl⟩ :=jiU ha
    rw [jim] at hj
    rw [List.getElem_take,kB Om]
    have hd:=CQ xs b xs.length Om
    have h1:ww (pt xs (VU xs b xs.length- 1)) b:=by
     rcases UE (pt xs (VU xs b xs.length- 1)) b with h1 | h1 | h1
     ·exact h1
     ·exact absurd ⟨by omega,h1⟩ hn
     ·exact absurd h1 hd
    by_cases e:j=VU xs b xs.length- 1
    ·rw [e];exact h1
    ·have:=jjc.1 h j (VU xs b xs.length- 1) Om Om Om
     rw [kB Om,kB Om] at this
     exact vY this h1
   ·exact hs.2.2 a ha b hb
def qF (l:List Pn) :List Pn:=l.foldl vx []
theorem DT (l:List Pn) :∀xs,Asc xs→Asc (l.foldl vx xs)∧∀q,q∈l.foldl vx xs↔q∈xs∨q∈l:=by
 induction l with
 | nil=>intro xs h;exact⟨h,fun q=>by simp⟩
 | cons p l ih=>
  intro xs h
  obtain ⟨h1,h2⟩ :=ih (vx xs p) (jc5 h)
  refine⟨h1,fun q=> ?_⟩
  rw [ji7,h2 q,XO,jis]
  constructor
  ·rintro((h | h) | h)
   ·exact .inl h
   ·exact .inr (.inl h)
   ·exact .inr (.inr h)
  ·rintro(h | h | h)
   ·exact .inl (.inl h)
   ·exact .inl (.inr h)
   ·exact .inr h
theorem wD (l:List Pn) :Asc (qF l) := (DT l [] List.Pairwise.nil).1
theorem wF (l:List Pn) (q:Pn) :q∈qF l↔q∈l:=by rw [qF,(DT l [] List.Pairwise.nil).2 q];simp
def QO:List Pn→List Pn
 | [] => []
 | [p] => [p]
 | p::q::l=>if p=q then QO (q::l) else p::QO (q::l)
theorem Zo:∀(l:List Pn) (r:Pn),r∈QO l↔r∈l
 | [],_=>Iff.rfl
 | [_],_=>Iff.rfl
 | p::q::l,r=>by
  unfold QO
  split
  ·rename_i e
   rw [Zo (q::l) r,e]
   simp
  ·rw [jis,Zo (q::l) r]
   simp
def Ris (l:List Pn) :Prop:=l.Pairwise fun p q=>¬ww q p
theorem DK:∀ {l:List Pn},Ris l→Asc (QO l)
 | [],_=>List.Pairwise.nil
 | [p],_=>jjD _ _
 | p::q::l,h=>by
  have h1:=jiN.1 h
  have ih:=DK (l:=q::l) h1.2
  unfold QO
  split
  ·exact ih
  ·rename_i hne
   refine jiN.2 ⟨fun r hr=> ?_,ih⟩
   rw [Zo] at hr
   have hpq:ww p q:=by
    rcases UE p q with h2 | h2 | h2
    ·exact h2
    ·exact absurd h2 hne
    ·exact absurd h2 (h1.1 q (by simp))
   rcases jis.1 hr with e | hr
   ·rw [e];exact hpq
   ·have h3:= (jiN.1 h1.2).1 r hr
    unfold ww at*
    omega
theorem R7 {m:List Pn} (hs:Ris m) (hp:∀q,q∈m↔q∈l) :QO m=qF l:=
 PX (DK hs) (wD l) fun q=>by rw [Zo,hp,wF]
theorem PE (x:Int) :0≤x*x:=by
 rcases Int.le_total 0 x with h | h
 ·exact jiP h h
 ·have:=jiP (show 0≤-x by omega) (show 0≤-x by omega)
  grind
def EX (a b c d:Pn) :Int:=ZO a.1 a.2 b.1 b.2 c.1 c.2 d.1 d.2
def crN (a c d:Pn) :Int:=H1 a.1 a.2 c.1 c.2 d.1 d.2
def F0 (a b c d:Pn) :Pn:= (BJ a.1 b.1 (crN a c d) (EX a b c d),BJ a.2 b.2 (crN a c d) (EX a b c d))
theorem Gn (a b c d:Pn) :EX a b c d=tn c d a- tn c d b:=by
 unfold EX ZO tn Kw
 grind
theorem xe (a c d:Pn) :crN a c d=tn c d a:=by
 unfold crN H1 tn Kw
 grind
theorem Uu {a b c d:Pn} (h:Qc a b c d=true) :EX a b c d≠0:=by
 rw [Gn]
 simp only [Qc,jig,decide_eq_true_eq] at h
 intro e
 have e':tn c d a=tn c d b:=by omega
 rw [e'] at h
 have:=PE (Wv (tn c d b))
 omega
theorem jcy {a b c d:Pn} (h:kz a b c d=2) : (ky a b c d).length=0∧EX a b c d≠0:=by
 unfold kz at h
 split at h
 ·rename_i h0
  split at h
  ·rename_i h1;exact⟨h0,Uu h1⟩
  ·omega
 ·split at h<;>omega
def YZ (p:Pn) :Prop:= (-1152921504606846976≤p.1∧p.1≤1152921504606846976)∧-1152921504606846976≤p.2∧p.2≤1152921504606846976
theorem bd2.wide (h:bd2 p) :YZ p:=by
 obtain ⟨⟨h1,h2⟩,h3,h4⟩ :=h
 exact⟨⟨by omega,by omega⟩,by omega,by omega⟩
theorem jbN {x y n d:Int} (hx: -262144≤x∧x≤262144) (hy: -262144≤y∧y≤262144) (hn: -549755813888≤n∧n≤549755813888) (hd:d≠0) : -1152921504606846976≤BJ x y n d∧BJ x y n d≤1152921504606846976:=by
 rw [Nq _ _ _ _ hd]
 split
 ·have h1:=QW (a:=y- x) (b:= -n) (A:=524288) (B:=549755813888) Om Om Om Om
  have h2:=G7 ((y- x) * -n) (-d) 288230376151711744 Om Om Om
  omega
 ·have h1:=QW (a:=y- x) (b:=n) (A:=524288) (B:=549755813888) Om Om Om Om
  have h2:=G7 ((y- x) *n) d 288230376151711744 Om Om Om
  omega
theorem PJ {a b c:Pn} (ha:bd2 a) (hb:bd2 b) (hc:bd2 c) : -549755813888≤tn a b c∧tn a b c≤549755813888:=by
 obtain ⟨⟨a1,a2⟩,a3,a4⟩ :=ha
 obtain ⟨⟨b1,b2⟩,b3,b4⟩ :=hb
 obtain ⟨⟨c1,c2⟩,c3,c4⟩ :=hc
 exact jha _ _ _ _ _ _ a1 a2 a3 a4 b1 b2 b3 b4 c1 c2 c3 c4
theorem jgi {a b c d:Pn} (ha:bd2 a) (hb:bd2 b) (hc:bd2 c) (hd:bd2 d) (h:EX a b c d≠0) :YZ (F0 a b c d) :=by
 have hn:=PJ hc hd ha
 rw [←xe] at hn
 exact⟨jbN ha.1 hb.1 hn h,jbN ha.2 hb.2 hn h⟩
theorem yQ (h:bd2 p) :wX p.1 p.2=true:=by
 obtain ⟨⟨h1,h2⟩,h3,h4⟩ :=h
 simp [wX,Yt, *]
theorem Np (a b c d:Pn) (w:World) (ha:bd2 a) (hb:bd2 b) (hc:bd2 c) (hd:bd2 d) (h:EX a b c d≠0) :Calls Tryz.prog 110 #[pV a,pV b,pV c,pV d] w fun e w'=>e= .returned (pV (F0 a b c d))∧Over w w':=
 F1 a.1 a.2 b.1 b.2 c.1 c.2 d.1 d.2 w (yQ ha) (yQ hb) (yQ hc) (yQ hd) h
theorem B5 (a b c d:Pn) (w:World) (ha:bd2 a) (hb:bd2 b) (hc:bd2 c) (hd:bd2 d) (h:kz a b c d=2) :Calls Tryz.prog 107 #[pV a,pV b,pV c,pV d] w fun e w'=>e= .returned (pV (F0 a b c d))∧Over w w':=by
 obtain ⟨h0,hD⟩ :=jcy h
 have n1:=PJ hc hd ha
 have n2:=PJ hc hd hb
 have eD:=Gn a b c d
 have eN:=xe a c d
 have e1:=Nq a.1 b.1 (crN a c d) (EX a b c d) hD
 have e2:=Nq a.2 b.2 (crN a c d) (EX a b c d) hD
 have f1:=ha;have f2:=hb
 obtain ⟨⟨a1,a2⟩,a3,a4⟩ :=f1
 obtain ⟨⟨b1,b2⟩,b3,b4⟩ :=f2
 have x1:=QW (a:=b.1- a.1) (b:=tn c d a) (A:=524288) (B:=549755813888) Om Om Om Om
 have x2:=QW (a:=b.2- a.2) (b:=tn c d a) (A:=524288) (B:=549755813888) Om Om Om Om
 have x3:=QW (a:=b.1- a.1) (b:= -tn c d a) (A:=524288) (B:=549755813888) Om Om Om Om
 have x4:=QW (a:=b.2- a.2) (b:= -tn c d a) (A:=524288) (B:=549755813888) Om Om Om Om
 rw [eD,eN] at e1 e2
 have hD':tn c d a- tn c d b≠0:=eD▸hD
 have eP:F0 a b c d= (BJ a.1 b.1 (tn c d a) (tn c d a- tn c d b),BJ a.2 b.2 (tn c d a) (tn c d a- tn c d b)) :=by rw [F0,eD,eN]
 refine jK (m:=64) (Tryz.func107) J J (lb J) ?_;refine S3 ?_;refine aX (fun b1=> ?_);refine N1 ?_;refine aX (fun b2=> ?_);refine N1 ?_;refine aX (fun b3=> ?_);refine N1 ?_;refine aX (fun b4=> ?_);refine N1 ?_;refine aL (fun b5=> ?_);refine N8 ?_;refine JQ Yz (v:=fun x=> .slice x.1 _ x.2) (r:=fun x=>JS 0 28 2 _ _ x) (H:=fun _=>True) J J J (lb J) (fun w1 hs=>qI (HH a b c d w1 ha hb hc hd)) ?_
 rintro⟨eA,ec⟩ -
 refine N9 ?_;refine cZ (fun c1=> ?_) (fun c1=> ?_)
 ·omega
 ·refine S7 ?_;refine a9 (jG Qu J J (fun w h=>WV _ _ _ w hc hd ha)) ?_;refine S8 ?_;refine a9 (jG Qu J J (fun w h=>WV _ _ _ w hc hd hb)) ?_;refine S9 ?_;refine cZ (fun c2=> ?_) (fun c2=> ?_)
  ·have r1:=G7 ((b.1- a.1) * -tn c d a) (-(tn c d a- tn c d b)) 288230376151711744 Om Om Om
   have r2:=G7 ((b.2- a.2) * -tn c d a) (-(tn c d a- tn c d b)) 288230376151711744 Om Om Om
   rw [if_pos c2] at e1 e2
   refine S3 ?_;refine a9 (uv J J Om Om) ?_;refine S4 ?_;refine a9 (uv J J Om Om) ?_;refine S4 ?_;refine Q0 26 [4] ?_;refine dK 0 ?_;refine dK 1 ?_;refine dK 2 ?_;refine dK 3 ?_;refine dK 4 ?_;refine dK 5 ?_;refine dK 6 ?_;refine dK 7 ?_;refine dK 8 ?_;refine dK 9 ?_;refine dZ 10 J (jG vr J J (fun w h=>Calls.still (Wg _ _ w Om Om Om Om))) ?_;refine dK 11 ?_;refine dK 12 ?_;refine dK 13 ?_;refine dK 14 ?_;refine dK 15 ?_;refine dK 16 ?_;refine dK 17 ?_;refine dK 18 ?_;refine dK 19 ?_;refine dK 20 ?_;refine dK 21 ?_;refine dZ 22 J (jG vr J J (fun w h=>Calls.still (Wg _ _ w Om Om Om Om))) ?_;refine dK 23 ?_;refine dZ 24 J (JF J J (Qi J J)) ?_;refine qd (i:=25) J Dc Kr J ?_;refine S1 ?_;refine JU (uw [4] J) ?_;refine JB Kr ?_;refine S2 ?_;refine jJ J (JZ (k:=4) J jj J J) ?_
   intro w' hs
   exact⟨by rw [eP,e1,e2],hs.fin⟩
  ·have r1:=G7 ((b.1- a.1) *tn c d a) (tn c d a- tn c d b) 288230376151711744 Om Om Om
   have r2:=G7 ((b.2- a.2) *tn c d a) (tn c d a- tn c d b) 288230376151711744 Om Om Om
   rw [if_neg (jjn.2 c2)] at e1 e2
   refine S4 ?_;refine Q0 26 [4] ?_;refine dK 0 ?_;refine dK 1 ?_;refine dK 2 ?_;refine dK 3 ?_;refine dK 4 ?_;refine dK 5 ?_;refine dK 6 ?_;refine dK 7 ?_;refine dK 8 ?_;refine dK 9 ?_;refine dZ 10 J (jG vr J J (fun w h=>Calls.still (Wg _ _ w Om Om Om Om))) ?_;refine dK 11 ?_;refine dK 12 ?_;refine dK 13 ?_;refine dK 14 ?_;refine dK 15 ?_;refine dK 16 ?_;refine dK 17 ?_;refine dK 18 ?_;refine dK 19 ?_;refine dK 20 ?_;refine dK 21 ?_;refine dZ 22 J (jG vr J J (fun w h=>Calls.still (Wg _ _ w Om Om Om Om))) ?_;refine dK 23 ?_;refine dZ 24 J (JF J J (Qi J J)) ?_;refine qd (i:=25) J Dc Kr J ?_;refine S1 ?_;refine JU (uw [4] J) ?_;refine JB Kr ?_;refine S2 ?_;refine jJ J (JZ (k:=4) J jj J J) ?_
   intro w' hs
   exact⟨by rw [eP,e1,e2],hs.fin⟩
section
variable {P:Program} {n:Nat} {env:List (Nat×Value)} {w0:Bs} {Rs:List Res} {ops:Array Oper} {Q:Exit→Act→World→Prop} {K:Act→World→Prop} {o:Oper}
theorem we {f d:Nat} (hfn:FnOk P f) {xs:List Operand} {X:Type} {v:X→Value} {r:Res} {r':X→Res} (ho:o.op= .call {callee:= .value (.func f),args:=xs.toArray,argTypes:=ts}) (hx:So env xs=some vs) (hd:o.dst=some d) (hn:d<n) (hk:Rs[k]? =some r) (hc:∀w,St w0 Rs w→Calls P f vs.toArray w fun e w'=>∃x,e= .returned (v x)∧Wrs r.F w w'∧(r' x).P w'∧(∀b,(r' x).F b→r.F b∨w.heap.size≤b)∧(r' x).B=0) (h:∀x,At n ((d,v x) ::env) w0 (Rs.set k (r' x)) K) :At n env w0 Rs (fun a w=>o.wp P a w K Q) :=fun a w hF' hs=>by
 show o.upon P a K Q ((execOp a.eval o).run P w)
 rw [zX hfn ho hx hF']
 refine Calls.mono (hc w hs) ?_
 rintro e w' ⟨x,rfl,hw,hp,hF,hB⟩
 have hlow:= (hs.all k _ hk).2.1
 show K (a.put o.dst (v x)) w'
 rw [hd]
 refine h x _ _ (hF'.put hn _) (hs.upd hk ⟨hw.os.trans hs.over.os,hw.tape.trans hs.over.tape,hw.output.trans hs.over.output,jiY hs.over.size hw.size,fun c hc' hx'=> ?_⟩ hw.size (fun c hc' hne=>hw.block c hc' hne) hp (fun c hc'=>hF c hc') hB)
 rw [hw.block c (jio hc' hs.over.size) (fun e=> (hlow c e).elim (fun h1=>by omega) (fun h1=>hx' h1))]
 exact hs.over.block c hc' hx'
theorem YW (k:Nat) {B T s m:Nat} {xs:List Value} (hk:Rs[k]? =some (.row B T s v m xs)) (h:At n env w0 (Rs.set k (.row 0 T s v m xs)) K) :At n env w0 Rs K:=fun a w hf hs=>
 h a w hf (hs.chg hk (fun hP=>wo hP (jie _)) (fun c hc=>hc) rfl)
end
theorem EK {env:List (Nat×Value)} (h:∀w1,St w0 Rs w1→At n env ⟨w1,[]⟩ [] K) :At n env w0 Rs K:=fun a w hf hs=>h w hs a w hf (St.start w)
abbrev uS (xs:List Pn) (x:Nat×Nat) :Res:=JS 0 28 2 xs.length (xs.flatMap jV) (some ⟨x.1,0,none⟩,x.2)
theorem wO (p q:Pn) (w:World) :Calls Tryz.prog 156 #[pV p,pV q] w fun e w'=>e= .returned (.bool (decide (ww p q)))∧Over w w':=by
 refine jK (m:=24) (Tryz.func156) J J (lb J) ?_;refine S3 ?_;refine aX (fun b1=> ?_);refine N1 ?_;refine aX (fun b2=> ?_);refine N10 ?_;refine cV 10 (fun g1=> ?_) (fun g1=> ?_)
 ·refine S16 ?_;refine jJ J (.tmp J) ?_
  intro w' hs
  exact⟨congrArg Ending.returned (congrArg Value.bool (jiK.2 (Iff.trans (b:=ww p q) (by simp [ww];omega) decide_eq_true_iff.symm))),hs.fin⟩
 ·refine S12 ?_;refine cV 16 (fun g2=> ?_) (fun g2=> ?_)
  ·refine S16 ?_;refine jJ J (.tmp J) ?_
   intro w' hs
   exact⟨congrArg Ending.returned (congrArg Value.bool (jiK.2 (Iff.trans (b:=ww p q) (by simp [ww];omega) decide_eq_true_iff.symm))),hs.fin⟩
  ·refine S11 ?_;refine jJ J (.tmp J) ?_
   intro w' hs
   exact⟨congrArg Ending.returned (congrArg Value.bool (jiK.2 (Iff.trans (b:=ww p q) (by simp [ww];omega) decide_eq_true_iff.symm))),hs.fin⟩
theorem jaE (h:¬(0<k∧ww p (pt xs (k- 1)))) :VU xs p k=k:=by
 cases k with
 | zero=>rfl
 | succ k=>
  rw [VU,if_neg]
  intro h1
  exact h ⟨by omega,h1⟩
theorem jaD (h:0<k∧ww p (pt xs (k- 1))) :VU xs p (k- 1) =VU xs p k:=by
 cases k with
 | zero=>rfl
 | succ k=>
  show VU xs p k=VU xs p (k+1)
  rw [VU,if_pos (show ww p (pt xs k) from h.2)]
theorem jhY {j:Nat} : ((px xs j==p.1) && (py xs j==p.2)) =decide (pt xs j=p) :=by
 rw [jiK]
 simp [pt,Prod.ext_iff]
theorem jc7 (h:k=VU xs p xs.length) (hk:0<k∧pt xs (k- 1) =p) :vx xs p=xs:=by
 subst h
 rw [vx,if_pos hk]
theorem jc6 (h:k=VU xs p xs.length) (hk:¬(0<k∧pt xs (k- 1) =p)) :vx xs p=xs.take k++p::xs.drop k:=by
 subst h
 rw [vx,if_neg hk]
theorem xi (g c n:Nat) (xs:List Pn) (p:Pn) (w:World) (h:Pts w (some ⟨g,0,none⟩) n xs) (hc:n≤c) (hn:n≤1048576) :
  Calls Tryz.prog 104 #[.slice (some ⟨g,0,none⟩) n c,pV p] w fun e w'=> (e= .returned (.slice (some ⟨g,0,none⟩) n c)∧vx xs p=xs∧Over w w')∨∃v,e= .returned v∧w'.ownsRow w.heap.size 28 2 v (vx xs p).length ((vx xs p).flatMap jV)∧Over w w':=by
 have hl:=h.1
 refine jK (m:=48) (Tryz.func104) J J (lb J) ?_;refine S3 ?_;refine aX (fun b1=> ?_);refine N10 ?_;refine qj (X:=Nat) (fun k=>k≤n∧VU xs p k=VU xs p n) (fun k=>k) (fun k=> [(5, .int .i64 (k:Int))]) (kK [0,3,4]) n (⟨jif _,J⟩) ⟨J,sz⟩ ?_
 intro k hk L hL1
 refine V1 ?_;refine qr [(19, .bool (decide (0<k∧ww p (pt xs (k- 1)))))] (kK [0,3,4,5]) (fun L h_2=> ?_) ?_
 ·refine S1 ?_;refine JH 11 ?_;refine dK 0 ?_;refine dK 1 ?_;refine dK 2 ?_;refine cV 11 (fun g1=> ?_) (fun g1=> ?_)
  ·refine eK 3 ?_;refine eK 4 ?_;refine eK 5 ?_;refine eZ 6 J ((JC J J J Om Om).as (congrArg _ (show((k:Int) - 1) = ((k- 1:Nat) :Int) by omega))) ?_;refine eK 7 ?_;refine eZ 8 J (jk J J jj J (Q4 h Om)) ?_;refine eZ 9 J (jG Kn J J (fun w _=>wO p (pt xs (k- 1)) w)) ?_;refine dK 10 ?_;refine JB Kr ?_;refine S1 ?_
   exact Js h_2 ⟨vb (by simp;omega),sz⟩ (u9 J)
  ·refine fK 3 ?_;refine fK 4 ?_;refine fK 5 ?_;refine fK 6 ?_;refine fK 7 ?_;refine fK 8 ?_;refine fK 9 ?_;refine dK 10 ?_;refine JB Kr ?_;refine S1 ?_
   exact Js h_2 ⟨vb (by simp;omega),sz⟩ (u9 J)
 ·refine v9 ?_;refine cZ (fun c1=> ?_) (fun c1=> ?_)
  ·refine S10 ?_
   exact qa hL1 (k- 1) (⟨by omega,(jaD c1).trans hk.2⟩) Om ⟨vi Om,sz⟩ (u9 J)
  ·have hpos:k=VU xs p xs.length:=by rw [hl,←hk.2,jaE c1]
   refine S6 ?_;refine qr [(32, .bool (decide (0<k∧pt xs (k- 1) =p)))] (kK [0,3,4,5]) (fun L h_4=> ?_) ?_
   ·refine S1 ?_;refine JH 11 ?_;refine dK 0 ?_;refine dK 1 ?_;refine dK 2 ?_;refine cV 24 (fun g2=> ?_) (fun g2=> ?_)
    ·refine eK 3 ?_;refine eK 4 ?_;refine eZ 5 J ((JC J J J Om Om).as (congrArg _ (show((k:Int) - 1) = ((k- 1:Nat) :Int) by omega))) ?_;refine eK 6 ?_;refine eZ 7 J (jk J J jj J (Q4 h Om)) ?_;refine eK 8 ?_;refine eK 9 ?_;refine dK 10 ?_;refine JB Kr ?_;refine S1 ?_
     exact Js h_4 ⟨vb (by rw [jhY];simp;omega),sz⟩ (u9 J)
    ·refine fK 3 ?_;refine fK 4 ?_;refine fK 5 ?_;refine fK 6 ?_;refine fK 7 ?_;refine fK 8 ?_;refine fK 9 ?_;refine dK 10 ?_;refine JB Kr ?_;refine S1 ?_
     exact Js h_4 ⟨vb (by rw [decide_eq_false (fun h=>absurd h.1 Om)]),sz⟩ (u9 J)
   ·refine v9 ?_;refine cZ (fun c2=> ?_) (fun c2=> ?_)
    ·refine S7 ?_;refine jJ J (.tmp J) ?_
     intro w' hs
     exact .inl ⟨rfl,jc7 hpos c2,hs.fin⟩
    ·have hput:=jc6 hpos c2
     have hpl: (vx xs p).length=0+k+1+ (n- k) :=by rw [hput,jid,jij,jim,jiy];omega
     refine S5 ?_;refine jX J J (Qk) J (lb J) (fun b2=> ?_);refine KQ 1 2 J J ?_;refine N2 ?_;refine a9 ((QS J J J jl Om).as (vf _ _ _ _ _)) ?_;refine S1 ?_;refine JK (k:=1) J jl jD Dc J Dc J J J (fun w' hs=>XZ (h.over hs.fin) Om) (Kf _) (by unfold maxLen;omega) Om (jif _) (fun r1=> ?_);refine N7 ?_;refine jX J J (J9 J) J (lb J) (fun b3=> ?_);refine N1 ?_;refine JK (k:=1) J jl jD Dc J Dc J J J (fun w' hs=>qD hs (k:=2) J J) (by simp [Value.oneCell']) (by unfold maxLen;omega) Om (jif _) (fun r2=> ?_);refine N7 ?_;refine a9 ((KZ J J J jl Om).as (uY (b:=g) (o:=0) (l:=k) (h:=n) (m:=c) (s:=2) hc Om)) ?_;refine S1 ?_;refine JK (k:=1) J jl jD Dc J Dc J J J (fun w' hs=>jfj (h.over hs.fin) Om hc) (Kf _) (by unfold maxLen;omega) Om (jif _) (fun r3=> ?_);refine N3 ?_;refine jJ J (.tmp J) ?_
     intro w' hs
     have hr:= (hs.all 1 _ rfl).1
     exact .inr ⟨_,rfl,by rw [hpl,hput,jii,jiA,←jil];exact hr,hs.fin⟩
theorem CW (h: (uS xs (g,c)).P w) (hn:xs.length≤1048576) :
  Calls Tryz.prog 104 #[.slice (some ⟨g,0,none⟩) xs.length c,pV p] w fun e w'=>∃x:Nat×Nat,e= .returned (.slice (some ⟨x.1,0,none⟩) (vx xs p).length x.2)∧Wrs (uS xs (g,c)).F w w'∧(uS (vx xs p) x).P w'∧(∀b,(uS (vx xs p) x).F b→(uS xs (g,c)).F b∨w.heap.size≤b)∧(uS (vx xs p) x).B=0:=by
 refine(xi g c xs.length xs p w (kE h J) (v6 h) hn).mono ?_
 rintro e w' (⟨rfl,hp,hO⟩ |⟨v,rfl,hr,hO⟩)
 ·refine⟨(g,c),by rw [hp],Wrs.of hO,?_,fun b hb=> .inl (by rw [hp] at hb;exact hb),J⟩
  rw [hp]
  exact(uS xs (g,c)).dep w w' h hO.size fun b hb _=>hO.out.block b hb
 ·obtain ⟨x,rfl⟩ :=W2 hr
  have h0:0< (vx xs p).length:=List.length_pos_of_mem (XO.2 (.inr rfl))
  have hs:∃g2,x.1=some ⟨g2,0,none⟩ :=by
   rcases hr.2 with⟨_,e⟩ |⟨g2,cap,cur,e,_⟩
   ·omega
   ·injection e with e1
    exact⟨g2,e1⟩
  obtain ⟨g2,hg2⟩ :=hs
  obtain ⟨xA,xc⟩ :=x
  simp only at hg2
  subst hg2
  exact⟨(g2,xc),rfl,Wrs.of hO,wo hr (jie _),fun b hb=> .inr (hr.lt b hb).1,rfl⟩
def Uk (w1:World) (g:Nat) (xs:List Pn) (x:Nat×Nat) :Res:=if x.1<w1.heap.size then {F:=fun _=>False,P:=fun _=>x.1=g∧(uS xs x).P w1,low:=fun _ _ _ h=>h.elim,B:=0,dep:=fun _ _ h _ _=>h} else uS xs x
theorem Id (w1:World) (g:Nat) (xs:List Pn) (x:Nat×Nat) : (Uk w1 g xs x).B=0:=by unfold Uk;split<;>rfl
theorem jb5 (h: (Uk w1 g xs x).P w') (hO:Over w1 w') : (uS xs x).P w'∧(x.1=g∨w1.heap.size≤x.1) :=by
 unfold Uk at h
 split at h
 ·exact⟨(uS xs x).dep w1 w' h.2 hO.size fun b hb _=>hO.out.block b hb, .inl h.1⟩
 ·rename_i hn
  exact⟨h, .inr Om⟩
theorem jgp {b:Nat} (h: (uS xs x).F b) :b=x.1:=by
 have h:some x.1=some b:=h
 injection h with h
 exact h.symm
theorem SD (h: (uS xs x).P w') (hx:w1.heap.size≤x.1) : (Uk w1 g xs x).P w':=by
 unfold Uk
 rw [if_neg Om]
 exact h
theorem je7 (h: (uS xs (g,c)).P w1) (hO:Over w1 w') (hn:xs.length≤1048576) :
  Calls Tryz.prog 104 #[.slice (some ⟨g,0,none⟩) xs.length c,pV p] w' fun e w''=>∃x:Nat×Nat,e= .returned (.slice (some ⟨x.1,0,none⟩) (vx xs p).length x.2)∧Over w' w''∧(Uk w1 g (vx xs p) x).P w''∧(∀b,(Uk w1 g (vx xs p) x).F b→w'.heap.size≤b)∧(Uk w1 g (vx xs p) x).B=0∧True:=by
 have hg:g<w1.heap.size:= (uS xs (g,c)).low w1 h g rfl
 have h':= (uS xs (g,c)).dep w1 w' h hO.size fun b hb _=>hO.out.block b hb
 refine(xi g c xs.length xs p w' (kE h' J) (v6 h') hn).mono ?_
 rintro e w'' (⟨rfl,hp,hO'⟩ |⟨v,rfl,hr,hO'⟩)
 ·refine⟨(g,c),by rw [hp],hO',?_,fun b hb=> ?_,Id _ _ _ _,trivial⟩
  ·rw [hp]
   unfold Uk
   rw [if_pos hg]
   exact⟨rfl,h⟩
  ·unfold Uk at hb
   rw [if_pos hg] at hb
   exact hb.elim
 ·obtain ⟨x,rfl⟩ :=W2 hr
  have h0:0< (vx xs p).length:=List.length_pos_of_mem (XO.2 (.inr rfl))
  obtain ⟨g2,hg2⟩ :∃g2,x.1=some ⟨g2,0,none⟩ :=by
   rcases hr.2 with⟨_,e⟩ |⟨g2,cap,cur,e,_⟩
   ·omega
   ·injection e with e1
    exact⟨g2,e1⟩
  obtain ⟨xA,xc⟩ :=x
  simp only at hg2
  subst hg2
  have hlt:=hr.lt g2 rfl
  refine⟨(g2,xc),J,hO',SD (wo hr (jie _)) (jiY hO.size hlt.1),fun b hb=> ?_,Id _ _ _ _,trivial⟩
  unfold Uk at hb
  split at hb
  ·exact hb.elim
  ·rw [jgp hb];exact hlt.1
theorem jaH {g1:Nat} (h: (Uk w1 g xs (g1,c)).P w') (hO:Over w1 w') (hn:xs.length≤1048576) :
  Calls Tryz.prog 104 #[.slice (some ⟨g1,0,none⟩) xs.length c,pV p] w' fun e w''=>∃x:Nat×Nat,e= .returned (.slice (some ⟨x.1,0,none⟩) (vx xs p).length x.2)∧Wrs (Uk w1 g xs (g1,c)).F w' w''∧(Uk w1 g (vx xs p) x).P w''∧(∀b,(Uk w1 g (vx xs p) x).F b→(Uk w1 g xs (g1,c)).F b∨w'.heap.size≤b)∧(Uk w1 g (vx xs p) x).B=0:=by
 have h':= (jb5 h hO).1
 refine(xi g1 c xs.length xs p w' (kE h' J) (v6 h') hn).mono ?_
 rintro e w'' (⟨rfl,hp,hO'⟩ |⟨v,rfl,hr,hO'⟩)
 ·refine⟨(g1,c),by rw [hp],Wrs.of hO',?_,fun b hb=> .inl (by rw [hp] at hb;exact hb),Id _ _ _ _⟩
  rw [hp]
  exact(Uk w1 g xs (g1,c)).dep w' w'' h hO'.size fun b hb _=>hO'.out.block b hb
 ·obtain ⟨x,rfl⟩ :=W2 hr
  have h0:0< (vx xs p).length:=List.length_pos_of_mem (XO.2 (.inr rfl))
  obtain ⟨g2,hg2⟩ :∃g2,x.1=some ⟨g2,0,none⟩ :=by
   rcases hr.2 with⟨_,e⟩ |⟨g2,cap,cur,e,_⟩
   ·omega
   ·injection e with e1
    exact⟨g2,e1⟩
  obtain ⟨xA,xc⟩ :=x
  simp only at hg2
  subst hg2
  have hlt:=hr.lt g2 rfl
  refine⟨(g2,xc),J,Wrs.of hO',SD (wo hr (jie _)) (jiY hO.size hlt.1),fun b hb=> .inr ?_,Id _ _ _ _⟩
  unfold Uk at hb
  split at hb
  ·exact hb.elim
  ·rw [jgp hb];exact hlt.1
theorem jd2 {env:List (Nat×Value)} {Rs2:List Res} (hs1:St w0 Rs w1) (k j:Nat) {xs2:List Pn} {x2:Nat×Nat} (hk:Rs[k]? =some (uS xs (g,c))) (hj:Rs2[j]? =some (Uk w1 g xs2 x2)) (h:At n env w0 (Rs.set k (uS xs2 x2)) K) :At n env ⟨w1,[]⟩ Rs2 K:=fun a w' hf hs=>by
 have hO:Over w1 w':=hs.fin
 obtain ⟨hP,hx⟩ :=jb5 (hs.all j _ hj).1 hO
 refine h a w' hf (hs1.upd hk ⟨hO.out.os.trans hs1.over.os,hO.out.tape.trans hs1.over.tape,hO.out.output.trans hs1.over.output,jiY hs1.over.size hO.size,fun c hc' hx'=> ?_⟩ hO.size (fun b hb _=>hO.out.block b hb) hP (fun b hb=> ?_) J)
 ·exact(hO.out.block c (jio hc' hs1.over.size)).trans (hs1.over.block c hc' hx')
 ·have e:=jgp hb
  rcases hx with h1 | h1
  ·left;show some g=some b;rw [e,h1]
  ·right;omega
def cz (ls:List Leg) (i:Nat) :Nat→List Pn
 | 0=> []
 | k+1=>cz ls i k++ (if kz (lA (lg ls i)) (lB (lg ls i)) (lA (lg ls k)) (lB (lg ls k)) =2 then [F0 (lA (lg ls i)) (lB (lg ls i)) (lA (lg ls k)) (lB (lg ls k))] else [])
def YM (ls:List Leg) :Nat→List Pn
 | 0=> []
 | i+1=>YM ls i++ [lA (lg ls i),lB (lg ls i)] ++cz ls i i
theorem Nu (ls:List Leg) (i:Nat) :∀k,(cz ls i k).length≤k
 | 0=>jif _
 | k+1=>by
  have:=Nu ls i k
  unfold cz
  rw [jid]
  split<;>simp<;>omega
theorem Zr (ls:List Leg) :∀i,(YM ls i).length≤i* (i+2)
 | 0=>jif _
 | i+1=>by
  have h1:=Zr ls i
  have h2:=Nu ls i i
  unfold YM
  rw [jid,jid]
  simp only [jij,jiw]
  have e: (i+1) * (i+1+2) =i* (i+2) +2*i+3:=by simp only [Nat.add_mul,Nat.mul_add];omega
  omega
def uu (ls:List Leg) (i k:Nat) :List Pn:=YM ls i++ [lA (lg ls i),lB (lg ls i)] ++cz ls i k
theorem CS (hi:i<400) (hk:k≤i) : (uu ls i k).length≤170000:=by
 have h1:=Zr ls i
 have h2:=Nu ls i k
 have h3:i* (i+2)≤400*402:=jjv Om Om
 unfold uu
 rw [jid,jid]
 simp only [jij,jiw]
 omega
theorem TF (xs:List Pn) (p:Pn) : (vx xs p).length≤xs.length+1:=by
 have:=L5 xs p xs.length
 unfold vx
 split
 ·omega
 ·rw [jid,jij,jim,jiy];omega
theorem E6 (l:List Pn) :∀xs,(l.foldl vx xs).length≤xs.length+l.length:=by
 induction l with
 | nil=>intro xs;exact jif _
 | cons p l ih=>
  intro xs
  have h1:=ih (vx xs p)
  have h2:=TF xs p
  rw [ji7,jij]
  omega
theorem wE (l:List Pn) : (qF l).length≤l.length:=by have:=E6 l [];simpa [qF] using this
theorem OS (l:List Pn) (p:Pn) :qF (l++ [p]) =vx (qF l) p:=by simp [qF,jjQ]
theorem TE (ls:List Leg) (i:Nat) :qF (uu ls i 0) =vx (vx (qF (YM ls i)) (lA (lg ls i))) (lB (lg ls i)) :=by
 simp [uu,cz,qF,jjQ]
theorem OU (h:kz (lA (lg ls i)) (lB (lg ls i)) (lA (lg ls k)) (lB (lg ls k)) =2) :qF (uu ls i (k+1)) =vx (qF (uu ls i k)) (F0 (lA (lg ls i)) (lB (lg ls i)) (lA (lg ls k)) (lB (lg ls k))) :=by
 rw [←OS,uu,cz,if_pos h,←jil]
 rfl
theorem Fn (h:¬kz (lA (lg ls i)) (lB (lg ls i)) (lA (lg ls k)) (lB (lg ls k)) =2) :qF (uu ls i (k+1)) =qF (uu ls i k) :=by
 rw [uu,cz,if_neg h,jiC]
 rfl
theorem jfI {b o:Nat} (h:Legs w (some ⟨b,o,none⟩) n ls) (hn:0<n) :b<w.heap.size:=by
 obtain ⟨b',o',e,hb,_⟩ :=h.2 hn
 injection e with e
 injection e with e1 e2
 subst e1
 exact hb
theorem Q5 {B N T s:Nat} {xs:List Value} (h:w.ownsRow B T s v n xs) (hN:∀b,v.ownBlock=some b→N≤b) :w.ownsRow N T s v n xs:=by
 refine⟨h.1,?_⟩
 rcases h.2 with e |⟨g,cap,cur,rfl,hb,rest⟩
 ·exact .inl e
 ·exact .inr ⟨g,cap,cur,rfl,hN g rfl,rest⟩
theorem NX (A:Option Addr) (n c:Nat) (ls:List Leg) (w:World) (h:Legs w A n ls) (hok:∀l∈ls,qU l) (hn:n≤400) :
  Calls Tryz.prog 51 #[.slice A n c] w fun e w'=>∃v,e= .returned v∧w'.ownsRow w.heap.size 28 2 v (qF (YM ls n)).length ((qF (YM ls n)).flatMap jV)∧Over w w':=by
 have hl:=h.1
 refine jK (m:=81) (Tryz.func51) J J (lb J) ?_;refine S7 ?_;refine jX J J (Qk) J (lb J) (fun b1=> ?_);refine KQ 0 2 J J ?_;refine N2 ?_;refine YW 0 J ?_;refine t9 ?_;refine S6 ?_;refine JE (X:=Nat×Nat×Nat) (fun x=>x.1≤n) (fun x=>n- x.1) (fun x=> [(3, .slice (some ⟨x.2.1,0,none⟩) (qF (YM ls x.1)).length x.2.2),(4, .int .i64 (x.1:Int))]) (kK [0,2]) (fun x=> [uS (qF (YM ls x.1)) x.2]) (0,b1,0) (jie _) ⟨J,sz⟩ (fun _ h=>h) ?_
 intro⟨i,g,gc⟩ hi L hL1
 refine v9 ?_;refine r9 ?_
 have hi:i≤n:=hi
 refine S8 ?_;refine cZ (fun c1=> ?_) (fun c1=> ?_)
 ·have hlt:i<n:=Om
  obtain ⟨eb,eo,rfl,_⟩ :=h.2 Om
  have hhl:=Zr ls i
  have hh2:i* (i+2)≤400*402:=jjv Om Om
  have hpa:=wE (YM ls i)
  have hpb:=TF (qF (YM ls i)) (lA (lg ls i))
  refine S12 ?_
  refine EK fun w1 hs1=> ?_
  have h1:=h.over hs1.fin
  have hp1:= (hs1.all 0 _ rfl).1
  refine S1 ?_;refine JH 10 ?_;refine dV 0 [5] ?_;refine dV 1 [2,3,4,5] ?_;refine dV 2 [3,4,5] ?_;refine dV 3 [4,5] ?_;refine d9 4 rfl [5] (u9 rfl) (jk rfl rfl jj rfl (by first | exact Qq (b:=eb) (o:=eo) (j:=i) (fun w' hs=>h.over hs.fin) hlt | exact Qa (b:=eb) (o:=eo) (j:=i) (fun w' hs=>h.over hs.fin) hlt | exact Qq (b:=eb) (o:=eo) (j:=k) (fun w' hs=>h.over hs.fin) hkl | exact Qa (b:=eb) (o:=eo) (j:=k) (fun w' hs=>h.over hs.fin) hkl | exact Qq (b:=eb) (o:=eo) (j:=i) (fun w' hs=>h1.over hs.fin) hlt | exact Qa (b:=eb) (o:=eo) (j:=i) (fun w' hs=>h1.over hs.fin) hlt)) ?_;refine dV 6 [7,8,9] ?_;refine dV 7 [8,9] ?_;refine dV 8 [9] ?_;refine dZ 9 rfl (jk rfl rfl jj rfl (by first | exact Qq (b:=eb) (o:=eo) (j:=i) (fun w' hs=>h.over hs.fin) hlt | exact Qa (b:=eb) (o:=eo) (j:=i) (fun w' hs=>h.over hs.fin) hlt | exact Qq (b:=eb) (o:=eo) (j:=k) (fun w' hs=>h.over hs.fin) hkl | exact Qa (b:=eb) (o:=eo) (j:=k) (fun w' hs=>h.over hs.fin) hkl | exact Qq (b:=eb) (o:=eo) (j:=i) (fun w' hs=>h1.over hs.fin) hlt | exact Qa (b:=eb) (o:=eo) (j:=i) (fun w' hs=>h1.over hs.fin) hlt)) ?_;refine qd (i:=5) J Dc Kr J ?_;refine JQ Wo (v:=fun x:Nat×Nat=> .slice (some ⟨x.1,0,none⟩) _ x.2) (r:=fun x=>Uk w1 _ _ x) (H:=fun _=>True) J J J (lb J) (fun w2 hs=>je7 (p:=lA (lg ls i)) hp1 hs.fin Om) ?_
  rintro⟨g1,gc1⟩ -
  refine n9 ?_;refine UB (u9 J) ?_;refine kN J Kr J ?_;refine we (k:=0) (v:=fun x:Nat×Nat=> .slice (some ⟨x.1,0,none⟩) _ x.2) (r':=fun x=>Uk w1 _ _ x) Wo J J J Dc J (fun w2 hs=>jaH (p:=lB (lg ls i)) (hs.all 0 _ J).1 hs.fin Om) ?_
  rintro⟨g2,gc2⟩
  refine n9 ?_;refine JH 12 ?_;refine dK 11 ?_;refine JB Kr ?_;refine jd2 hs1 0 0 J J ?_;refine t9 ?_
  rw [←TE]
  refine S6 ?_;refine JE (X:=Nat×Nat×Nat) (fun x=>x.1≤i) (fun x=>i- x.1) (fun x=> [(3, .slice (some ⟨x.2.1,0,none⟩) (qF (uu ls i x.1)).length x.2.2),(6, .int .i64 (x.1:Int))]) (kK [0,2,4,9,10,11,12,15,16,17,5,18,19,20,21,22,24,25,26,27,23,28]) (fun x=> [uS (qF (uu ls i x.1)) x.2]) (0,g2,gc2) (jie _) ⟨J,sz⟩ (fun _ h=>h) ?_
  intro⟨k,g,gc⟩ hk L hL2
  refine v9 ?_;refine r9 ?_
  have hk:k≤i:=hk
  refine S7 ?_;refine cZ (fun c2=> ?_) (fun c2=> ?_)
  ·have hkt:k<i:=Om
   have hkl:k<n:=Om
   have hpl:=CS (ls:=ls) (k:=k) (show i<400 by omega) hk
   have hpa:=wE (uu ls i k)
   refine S11 ?_;refine qr [(60, .bool (decide (kz (lA (lg ls i)) (lB (lg ls i)) (lA (lg ls k)) (lB (lg ls k)) =2)))] (kK [0,2,4,9,10,11,12,15,16,17,5,18,19,20,21,22,24,25,26,27,23,28,3,6,29,30,31,34,35,36,7]) (fun L h_11=> ?_) ?_
   ·refine S1 ?_;refine JH 24 ?_;refine dK 0 ?_;refine dK 1 ?_;refine dZ 2 J (jG GS J J (fun w1 hs=>Io eb _ eb _ (lg ls i) (lg ls k) w1 (yx (fun w' hs=>h.over hs.fin) hlt w1 hs) (yx (fun w' hs=>h.over hs.fin) hkl w1 hs) (jfI (h.over hs.fin) Om) (jfI (h.over hs.fin) Om))) ?_;refine dK 3 ?_;refine dK 4 ?_;refine cV 41 (fun g1=> ?_) (fun g1=> ?_)
    ·refine eK 5 ?_;refine eK 6 ?_;refine eK 7 ?_;refine eZ 8 rfl (jk rfl rfl jj rfl (by first | exact Qq (b:=eb) (o:=eo) (j:=i) (fun w' hs=>h.over hs.fin) hlt | exact Qa (b:=eb) (o:=eo) (j:=i) (fun w' hs=>h.over hs.fin) hlt | exact Qq (b:=eb) (o:=eo) (j:=k) (fun w' hs=>h.over hs.fin) hkl | exact Qa (b:=eb) (o:=eo) (j:=k) (fun w' hs=>h.over hs.fin) hkl | exact Qq (b:=eb) (o:=eo) (j:=i) (fun w' hs=>h1.over hs.fin) hlt | exact Qa (b:=eb) (o:=eo) (j:=i) (fun w' hs=>h1.over hs.fin) hlt)) ?_;refine eK 9 ?_;refine eK 10 ?_;refine eK 11 ?_;refine eZ 12 rfl (jk rfl rfl jj rfl (by first | exact Qq (b:=eb) (o:=eo) (j:=i) (fun w' hs=>h.over hs.fin) hlt | exact Qa (b:=eb) (o:=eo) (j:=i) (fun w' hs=>h.over hs.fin) hlt | exact Qq (b:=eb) (o:=eo) (j:=k) (fun w' hs=>h.over hs.fin) hkl | exact Qa (b:=eb) (o:=eo) (j:=k) (fun w' hs=>h.over hs.fin) hkl | exact Qq (b:=eb) (o:=eo) (j:=i) (fun w' hs=>h1.over hs.fin) hlt | exact Qa (b:=eb) (o:=eo) (j:=i) (fun w' hs=>h1.over hs.fin) hlt)) ?_;refine eK 13 ?_;refine eK 14 ?_;refine eK 15 ?_;refine eZ 16 rfl (jk rfl rfl jj rfl (by first | exact Qq (b:=eb) (o:=eo) (j:=i) (fun w' hs=>h.over hs.fin) hlt | exact Qa (b:=eb) (o:=eo) (j:=i) (fun w' hs=>h.over hs.fin) hlt | exact Qq (b:=eb) (o:=eo) (j:=k) (fun w' hs=>h.over hs.fin) hkl | exact Qa (b:=eb) (o:=eo) (j:=k) (fun w' hs=>h.over hs.fin) hkl | exact Qq (b:=eb) (o:=eo) (j:=i) (fun w' hs=>h1.over hs.fin) hlt | exact Qa (b:=eb) (o:=eo) (j:=i) (fun w' hs=>h1.over hs.fin) hlt)) ?_;refine eK 17 ?_;refine eK 18 ?_;refine eK 19 ?_;refine eZ 20 rfl (jk rfl rfl jj rfl (by first | exact Qq (b:=eb) (o:=eo) (j:=i) (fun w' hs=>h.over hs.fin) hlt | exact Qa (b:=eb) (o:=eo) (j:=i) (fun w' hs=>h.over hs.fin) hlt | exact Qq (b:=eb) (o:=eo) (j:=k) (fun w' hs=>h.over hs.fin) hkl | exact Qa (b:=eb) (o:=eo) (j:=k) (fun w' hs=>h.over hs.fin) hkl | exact Qq (b:=eb) (o:=eo) (j:=i) (fun w' hs=>h1.over hs.fin) hlt | exact Qa (b:=eb) (o:=eo) (j:=i) (fun w' hs=>h1.over hs.fin) hlt)) ?_;refine eZ 21 J (jG xr J J (fun w1 hs=>M3 (lA (lg ls i)) (lB (lg ls i)) (lA (lg ls k)) (lB (lg ls k)) w1 (VR (kk hok Om)) (wP (kk hok Om)) (VR (kk hok Om)) (wP (kk hok Om)))) ?_;refine eK 22 ?_;refine dK 23 ?_;refine JB Kr ?_;refine S1 ?_
     exact Js h_11 ⟨vb (by rw [jiK];simp),sz⟩ (u9 J)
    ·refine fK 5 ?_;refine fK 6 ?_;refine fK 7 ?_;refine fK 8 ?_;refine fK 9 ?_;refine fK 10 ?_;refine fK 11 ?_;refine fK 12 ?_;refine fK 13 ?_;refine fK 14 ?_;refine fK 15 ?_;refine fK 16 ?_;refine fK 17 ?_;refine fK 18 ?_;refine fK 19 ?_;refine fK 20 ?_;refine fK 21 ?_;refine fK 22 ?_;refine dK 23 ?_;refine JB Kr ?_;refine S1 ?_
     exact Js h_11 ⟨vb (by rw [Nf g1];rfl),sz⟩ (u9 J)
   ·refine v9 ?_;refine cZ (fun c3=> ?_) (fun c3=> ?_)
    ·refine S1 ?_;refine JH 18 ?_;refine dK 0 ?_;refine dV 1 [2,3,4,17] ?_;refine dV 2 [3,4,17] ?_;refine dV 3 [4,17] ?_;refine d9 4 rfl [17] (u9 rfl) (jk rfl rfl jj rfl (by first | exact Qq (b:=eb) (o:=eo) (j:=i) (fun w' hs=>h.over hs.fin) hlt | exact Qa (b:=eb) (o:=eo) (j:=i) (fun w' hs=>h.over hs.fin) hlt | exact Qq (b:=eb) (o:=eo) (j:=k) (fun w' hs=>h.over hs.fin) hkl | exact Qa (b:=eb) (o:=eo) (j:=k) (fun w' hs=>h.over hs.fin) hkl | exact Qq (b:=eb) (o:=eo) (j:=i) (fun w' hs=>h1.over hs.fin) hlt | exact Qa (b:=eb) (o:=eo) (j:=i) (fun w' hs=>h1.over hs.fin) hlt)) ?_;refine dV 5 [6,7,8,17] ?_;refine dV 6 [7,8,17] ?_;refine dV 7 [8,17] ?_;refine d9 8 rfl [17] (u9 rfl) (jk rfl rfl jj rfl (by first | exact Qq (b:=eb) (o:=eo) (j:=i) (fun w' hs=>h.over hs.fin) hlt | exact Qa (b:=eb) (o:=eo) (j:=i) (fun w' hs=>h.over hs.fin) hlt | exact Qq (b:=eb) (o:=eo) (j:=k) (fun w' hs=>h.over hs.fin) hkl | exact Qa (b:=eb) (o:=eo) (j:=k) (fun w' hs=>h.over hs.fin) hkl | exact Qq (b:=eb) (o:=eo) (j:=i) (fun w' hs=>h1.over hs.fin) hlt | exact Qa (b:=eb) (o:=eo) (j:=i) (fun w' hs=>h1.over hs.fin) hlt)) ?_;refine dV 9 [10,11,12,17] ?_;refine dV 10 [11,12,17] ?_;refine dV 11 [12,17] ?_;refine d9 12 rfl [17] (u9 rfl) (jk rfl rfl jj rfl (by first | exact Qq (b:=eb) (o:=eo) (j:=i) (fun w' hs=>h.over hs.fin) hlt | exact Qa (b:=eb) (o:=eo) (j:=i) (fun w' hs=>h.over hs.fin) hlt | exact Qq (b:=eb) (o:=eo) (j:=k) (fun w' hs=>h.over hs.fin) hkl | exact Qa (b:=eb) (o:=eo) (j:=k) (fun w' hs=>h.over hs.fin) hkl | exact Qq (b:=eb) (o:=eo) (j:=i) (fun w' hs=>h1.over hs.fin) hlt | exact Qa (b:=eb) (o:=eo) (j:=i) (fun w' hs=>h1.over hs.fin) hlt)) ?_;refine dV 13 [14,15,16,17] ?_;refine dV 14 [15,16,17] ?_;refine dV 15 [16,17] ?_;refine d9 16 rfl [17] (u9 rfl) (jk rfl rfl jj rfl (by first | exact Qq (b:=eb) (o:=eo) (j:=i) (fun w' hs=>h.over hs.fin) hlt | exact Qa (b:=eb) (o:=eo) (j:=i) (fun w' hs=>h.over hs.fin) hlt | exact Qq (b:=eb) (o:=eo) (j:=k) (fun w' hs=>h.over hs.fin) hkl | exact Qa (b:=eb) (o:=eo) (j:=k) (fun w' hs=>h.over hs.fin) hkl | exact Qq (b:=eb) (o:=eo) (j:=i) (fun w' hs=>h1.over hs.fin) hlt | exact Qa (b:=eb) (o:=eo) (j:=i) (fun w' hs=>h1.over hs.fin) hlt)) ?_;refine dZ 17 J (jG ZH J J (fun w1 hs=>B5 (lA (lg ls i)) (lB (lg ls i)) (lA (lg ls k)) (lB (lg ls k)) w1 (VR (kk hok Om)) (wP (kk hok Om)) (VR (kk hok Om)) (wP (kk hok Om)) c3)) ?_;refine kN J Kr J ?_;refine we (k:=0) (v:=fun x:Nat×Nat=> .slice (some ⟨x.1,0,none⟩) _ x.2) (r':=fun x=>uS _ x) Wo J J J Dc J (fun w1 hs=>CW (p:=F0 (lA (lg ls i)) (lB (lg ls i)) (lA (lg ls k)) (lB (lg ls k))) (hs.all 0 _ J).1 Om) ?_
     rintro⟨g3,gc3⟩
     refine n9 ?_;refine JH 20 ?_;refine dK 19 ?_;refine JB Kr ?_;refine S7 ?_
     exact Jd hL2 ((k+1,g3,gc3)) ((show k+1≤i by omega)) (by simp only;omega) ⟨(by rw [OU c3];rfl),vi Om,sz⟩ (fun _ h=>h.upto ⟨by rw [OU c3],trivial⟩)
    ·refine S8 ?_
     exact Jd hL2 ((k+1,g,gc)) ((show k+1≤i by omega)) (by simp only;omega) ⟨(by rw [Fn c3];rfl),vi Om,sz⟩ (fun _ h=>h.upto ⟨by rw [Fn c3],trivial⟩)
  ·refine S11 ?_
   exact Jd hL1 ((i+1,g,gc)) ((show i+1≤n by omega)) (by simp only;omega) ⟨(by rw [show k=i by omega];rfl),vi Om,sz⟩ (fun _ h=>h.upto ⟨by rw [show k=i by omega];rfl,trivial⟩)
 ·refine S11 ?_;refine jJ J (.tmp J) ?_
  intro w' hs
  have hr:=hs.all 0 _ rfl
  have hin:i=n:=by omega
  exact⟨_,rfl,by rw [←hin];exact Q5 hr.1 (fun b hb=> (hr.2.1 b hb).elim id (fun h=>by cases h)),hs.fin⟩
end Go.Proofs.YtbahojdbmmjkcaaGreat
