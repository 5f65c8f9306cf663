import Derived.Test.YtbahojdbmmjkcaaGreatMSnapped
import Derived.Test.YtbahojdbmmjkcaaGreatMSimp
set_option linter.unusedVariables false
set_option linter.unusedSimpArgs false
namespace Go.Proofs.YtbahojdbmmjkcaaGreat
open Go Go.RowKit
variable {K:Act→World→Prop} {Rs:List Res} {c g i k n:Nat} {l xs:List Pn} {ls:List Leg} {p:Pn} {ts:Array TypeId} {v:Value} {vs:List Value} {w w' w1:World} {w0:Bs} {x:Nat×Nat}
set_option maxRecDepth 100000
set_option maxHeartbeats 4000000
def vG (p q:Pn) :Prop:=p.2<q.2∨(p.2=q.2∧p.1<q.1)
instance (p q:Pn) :Decidable (vG p q) :=by unfold vG;exact inferInstance
theorem VL {q r:Pn} (h:vG p q) (h':vG q r) :vG p r:=by unfold vG at*;omega
theorem kD (p:Pn) :¬vG p p:=by unfold vG;omega
theorem ym (p q:Pn) :vG p q∨p=q∨vG q p:=by
 rcases p with⟨x,y⟩
 rcases q with⟨x',y'⟩
 simp only [vG,Prod.mk.injEq]
 omega
def Asc (l:List Pn) :Prop:=l.Pairwise vG
theorem Asc.head (h:Asc (p::l)) :∀q∈l,vG p q:= (jjX.1 h).1
theorem Asc.tail (h:Asc (p::l)) :Asc l:= (jjX.1 h).2
theorem F7:∀ {l m:List Pn},Asc l→Asc m→(∀p,p∈l↔p∈m)→l=m
 | [],[],_,_,_=>rfl
 | [],q::m,_,_,h=>absurd ((h q).2 (by simp)) (by simp)
 | p::l,[],_,_,h=>absurd ((h p).1 (by simp)) (by simp)
 | p::l,q::m,hl,hm,h=>by
  have e:p=q:=by
   rcases jjw.1 ((h p).1 (by simp)) with e | h1
   ·exact e
   ·rcases jjw.1 ((h q).2 (by simp)) with e | h2
    ·exact e.symm
    ·exact absurd (VL (hl.head q h2) (hm.head p h1)) (kD p)
  subst e
  congr 1
  refine F7 hl.tail hm.tail fun r=> ?_
  constructor
  ·intro hr
   rcases jjw.1 ((h r).1 (jjs _ hr)) with e | h1
   ·exact absurd (e▸hl.head r hr) (kD _)
   ·exact h1
  ·intro hr
   rcases jjw.1 ((h r).2 (jjs _ hr)) with e | h1
   ·exact absurd (e▸hm.head r hr) (kD _)
   ·exact h1
def wU (xs:List Pn) (p:Pn) :Nat→Nat
 | 0=>0
 | k+1=>if vG p (pt xs k) then wU xs p k else k+1
theorem MP (xs:List Pn) (p:Pn) :∀k,wU xs p k≤k
 | 0=>jjm _
 | k+1=>by
  unfold wU
  split
  ·have:=MP xs p k;omega
  ·exact jjm _
theorem C9 (xs:List Pn) (p:Pn) :∀k j,wU xs p k≤j→j<k→vG p (pt xs j)
 | 0,j,_,h=>absurd h Om
 | k+1,j,h,h'=>by
  unfold wU at h
  split at h
  ·rename_i hp
   by_cases e:j=k
   ·rw [e];exact hp
   ·exact C9 xs p k j h Om
  ·omega
theorem C8 (xs:List Pn) (p:Pn) :∀k,0<wU xs p k→¬vG p (pt xs (wU xs p k- 1))
 | 0,h=>absurd h (by simp [wU])
 | k+1,h=>by
  unfold wU at h⊢
  split at h
  ·rename_i hp
   rw [if_pos hp]
   exact C8 xs p k h
  ·rename_i hp
   rw [if_neg hp]
   exact hp
def Vq (xs:List Pn) (p:Pn) :List Pn:=if 0<wU xs p xs.length∧pt xs (wU xs p xs.length- 1) =p then xs else xs.take (wU xs p xs.length) ++p::xs.drop (wU xs p xs.length)
theorem Kg (h:k<xs.length) :xs[k] =pt xs k:=yU h
theorem GA {q:Pn} :q∈Vq xs p↔q∈xs∨q=p:=by
 unfold Vq
 split
 ·rename_i h
  have hle:=MP xs p xs.length
  constructor
  ·exact .inl
  ·rintro(h1 | rfl)
   ·exact h1
   ·rw [←h.2,←Kg Om]
    exact jju _
 ·have:=jjA (wU xs p xs.length) xs
  constructor
  ·intro h1
   rcases jjz.1 h1 with h1 | h1
   ·exact .inl (jj6 h1)
   ·rcases jjw.1 h1 with h1 | h1
    ·exact .inr h1
    ·exact .inl (jkf h1)
  ·rintro(h1 | h1)
   ·rw [←this] at h1
    rcases jjz.1 h1 with h2 | h2
    ·exact jjz.2 (.inl h2)
    ·exact jjz.2 (.inr (jjs _ h2))
   ·rw [h1];simp
theorem jdG (h:Asc xs) :Asc (Vq xs p) :=by
 unfold Vq
 split
 ·exact h
 ·rename_i hn
  have hle:=MP xs p xs.length
  have hs:=jkQ.1 ((jjA (wU xs p xs.length) xs).symm▸h:Asc (xs.take (wU xs p xs.length) ++xs.drop (wU xs p xs.length)))
  refine jkQ.2 ⟨hs.1,jjX.2 ⟨fun q hq=> ?_,hs.2.1⟩,fun a ha b hb=> ?_⟩
  ·obtain ⟨j,hj,rfl⟩ :=jj0 hq
   rw [jjO] at hj
   rw [List.getElem_drop,Kg Om]
   exact C9 xs p xs.length _ Om Om
  ·rcases jjw.1 hb with e | hb
   ·subst e
    obtain ⟨j,hj,rfl⟩ :=jj0 ha
    rw [jjC] at hj
    rw [List.getElem_take,Kg Om]
    have hd:=C8 xs b xs.length Om
    have h1:vG (pt xs (wU xs b xs.length- 1)) b:=by
     rcases ym (pt xs (wU xs b xs.length- 1)) b with h1 | h1 | h1
     ·exact h1
     ·exact absurd ⟨by omega,h1⟩ hn
     ·exact absurd h1 hd
    by_cases e:j=wU xs b xs.length- 1
    ·rw [e];exact h1
    ·have:=jkt.1 h j (wU xs b xs.length- 1) Om Om Om
     rw [Kg Om,Kg Om] at this
     exact VL this h1
   ·exact hs.2.2 a ha b hb
def kJ (l:List Pn) :List Pn:=l.foldl Vq []
theorem Fb (l:List Pn) :∀xs,Asc xs→Asc (l.foldl Vq xs)∧∀q,q∈l.foldl Vq xs↔q∈xs∨q∈l:=by
 induction l with
 | nil=>intro xs h;exact⟨h,fun q=>by simp⟩
 | cons p l ih=>
  intro xs h
  obtain ⟨h1,h2⟩ :=ih (Vq xs p) (jdG h)
  refine⟨h1,fun q=> ?_⟩
  rw [jkk,h2 q,GA,jjw]
  constructor
  ·rintro((h | h) | h)
   ·exact .inl h
   ·exact .inr (.inl h)
   ·exact .inr (.inr h)
  ·rintro(h | h | h)
   ·exact .inl (.inl h)
   ·exact .inl (.inr h)
   ·exact .inr h
theorem WD (l:List Pn) :Asc (kJ l) := (Fb l [] List.Pairwise.nil).1
theorem Vp (l:List Pn) (q:Pn) :q∈kJ l↔q∈l:=by rw [kJ,(Fb l [] List.Pairwise.nil).2 q];simp
def QY:List Pn→List Pn
 | [] => []
 | [p] => [p]
 | p::q::l=>if p=q then QY (q::l) else p::QY (q::l)
theorem ZT:∀(l:List Pn) (r:Pn),r∈QY l↔r∈l
 | [],_=>Iff.rfl
 | [_],_=>Iff.rfl
 | p::q::l,r=>by
  unfold QY
  split
  ·rename_i e
   rw [ZT (q::l) r,e]
   simp
  ·rw [jjw,ZT (q::l) r]
   simp
def Ris (l:List Pn) :Prop:=l.Pairwise fun p q=>¬vG q p
theorem D4:∀ {l:List Pn},Ris l→Asc (QY l)
 | [],_=>List.Pairwise.nil
 | [p],_=>jkG _ _
 | p::q::l,h=>by
  have h1:=jjX.1 h
  have ih:=D4 (l:=q::l) h1.2
  unfold QY
  split
  ·exact ih
  ·rename_i hne
   refine jjX.2 ⟨fun r hr=> ?_,ih⟩
   rw [ZT] at hr
   have hpq:vG p q:=by
    rcases ym p q with h2 | h2 | h2
    ·exact h2
    ·exact absurd h2 hne
    ·exact absurd h2 (h1.1 q (by simp))
   rcases jjw.1 hr with e | hr
   ·rw [e];exact hpq
   ·have h3:= (jjX.1 h1.2).1 r hr
    unfold vG at*
    omega
theorem jcc {m:List Pn} (hs:Ris m) (hp:∀q,q∈m↔q∈l) :QY m=kJ l:=
 F7 (D4 hs) (WD l) fun q=>by rw [ZT,hp,Vp]
theorem PO (x:Int) :0≤x*x:=by
 rcases Int.le_total 0 x with h | h
 ·exact jjD h h
 ·have:=jjD (show 0≤-x by omega) (show 0≤-x by omega)
  grind
def Nz (a b c d:Pn) :Int:=xr a.1 a.2 b.1 b.2 c.1 c.2 d.1 d.2
def crN (a c d:Pn) :Int:=LL a.1 a.2 c.1 c.2 d.1 d.2
def Hg (a b c d:Pn) :Pn:= (Db a.1 b.1 (crN a c d) (Nz a b c d),Db a.2 b.2 (crN a c d) (Nz a b c d))
theorem Za (a b c d:Pn) :Nz a b c d=tn c d a- tn c d b:=by
 unfold Nz xr tn Q0
 grind
theorem YK (a c d:Pn) :crN a c d=tn c d a:=by
 unfold crN LL tn Q0
 grind
theorem K7 {a b c d:Pn} (h:qg a b c d=true) :Nz a b c d≠0:=by
 rw [Za]
 simp only [qg,jjl,decide_eq_true_eq] at h
 intro e
 have e':tn c d a=tn c d b:=by omega
 rw [e'] at h
 have:=PO (wR (tn c d b))
 omega
theorem jc3 {a b c d:Pn} (h:Qd a b c d=2) : (Qk a b c d).length=0∧Nz a b c d≠0:=by
 unfold Qd at h
 split at h
 ·rename_i h0
  split at h
  ·rename_i h1;exact⟨h0,K7 h1⟩
  ·omega
 ·split at h<;>omega
def xe (p:Pn) :Prop:= (-1152921504606846976≤p.1∧p.1≤1152921504606846976)∧-1152921504606846976≤p.2∧p.2≤1152921504606846976
theorem bd2.wide (h:bd2 p) :xe p:=by
 obtain ⟨⟨h1,h2⟩,h3,h4⟩ :=h
 exact⟨⟨by omega,by omega⟩,by omega,by omega⟩
theorem jce {x y n d:Int} (hx: -262144≤x∧x≤262144) (hy: -262144≤y∧y≤262144) (hn: -549755813888≤n∧n≤549755813888) (hd:d≠0) : -1152921504606846976≤Db x y n d∧Db x y n d≤1152921504606846976:=by
 rw [ND _ _ _ _ hd]
 split
 ·have h1:=QP (a:=y- x) (b:= -n) (A:=524288) (B:=549755813888) Om Om Om Om
  have h2:=H5 ((y- x) * -n) (-d) 288230376151711744 Om Om Om
  omega
 ·have h1:=QP (a:=y- x) (b:=n) (A:=524288) (B:=549755813888) Om Om Om Om
  have h2:=H5 ((y- x) *n) d 288230376151711744 Om Om Om
  omega
theorem PT {a b c:Pn} (ha:bd2 a) (hb:bd2 b) (hc:bd2 c) : -549755813888≤tn a b c∧tn a b c≤549755813888:=by
 obtain ⟨⟨a1,a2⟩,a3,a4⟩ :=ha
 obtain ⟨⟨b1,b2⟩,b3,b4⟩ :=hb
 obtain ⟨⟨c1,c2⟩,c3,c4⟩ :=hc
 exact jh1 _ _ _ _ _ _ a1 a2 a3 a4 b1 b2 b3 b4 c1 c2 c3 c4
theorem jg8 {a b c d:Pn} (ha:bd2 a) (hb:bd2 b) (hc:bd2 c) (hd:bd2 d) (h:Nz a b c d≠0) :xe (Hg a b c d) :=by
 have hn:=PT hc hd ha
 rw [←YK] at hn
 exact⟨jce ha.1 hb.1 hn h,jce ha.2 hb.2 hn h⟩
theorem Wu (h:bd2 p) :wW p.1 p.2=true:=by
 obtain ⟨⟨h1,h2⟩,h3,h4⟩ :=h
 simp [wW,ZX, *]
theorem NC (a b c d:Pn) (w:World) (ha:bd2 a) (hb:bd2 b) (hc:bd2 c) (hd:bd2 d) (h:Nz a b c d≠0) :Calls Tryz.prog 110 #[pV a,pV b,pV c,pV d] w fun e w'=>e= .returned (pV (Hg a b c d))∧Over w w':=
 Ig a.1 a.2 b.1 b.2 c.1 c.2 d.1 d.2 w (Wu ha) (Wu hb) (Wu hc) (Wu hd) h
theorem Dt (a b c d:Pn) (w:World) (ha:bd2 a) (hb:bd2 b) (hc:bd2 c) (hd:bd2 d) (h:Qd a b c d=2) :Calls Tryz.prog 107 #[pV a,pV b,pV c,pV d] w fun e w'=>e= .returned (pV (Hg a b c d))∧Over w w':=by
 obtain ⟨h0,hD⟩ :=jc3 h
 have n1:=PT hc hd ha
 have n2:=PT hc hd hb
 have eD:=Za a b c d
 have eN:=YK a c d
 have e1:=ND a.1 b.1 (crN a c d) (Nz a b c d) hD
 have e2:=ND a.2 b.2 (crN a c d) (Nz a b c d) hD
 have f1:=ha;have f2:=hb
 obtain ⟨⟨a1,a2⟩,a3,a4⟩ :=f1
 obtain ⟨⟨b1,b2⟩,b3,b4⟩ :=f2
 have x1:=QP (a:=b.1- a.1) (b:=tn c d a) (A:=524288) (B:=549755813888) Om Om Om Om
 have x2:=QP (a:=b.2- a.2) (b:=tn c d a) (A:=524288) (B:=549755813888) Om Om Om Om
 have x3:=QP (a:=b.1- a.1) (b:= -tn c d a) (A:=524288) (B:=549755813888) Om Om Om Om
 have x4:=QP (a:=b.2- a.2) (b:= -tn c d a) (A:=524288) (B:=549755813888) Om Om Om Om
 rw [eD,eN] at e1 e2
 have hD':tn c d a- tn c d b≠0:=eD▸hD
 have eP:Hg a b c d= (Db a.1 b.1 (tn c d a) (tn c d a- tn c d b),Db a.2 b.2 (tn c d a) (tn c d a- tn c d b)) :=by rw [Hg,eD,eN]
 refine j6 (m:=64) (Tryz.func107) J J (lb J) ?_;refine S3 ?_;refine aX (fun b1=> ?_);refine N1 ?_;refine aX (fun b2=> ?_);refine N1 ?_;refine aX (fun b3=> ?_);refine N1 ?_;refine aX (fun b4=> ?_);refine N1 ?_;refine aL (fun b5=> ?_);refine N8 ?_;refine JU zq (v:=fun x=> .slice x.1 _ x.2) (r:=fun x=>J3 0 28 2 _ _ x) (H:=fun _=>True) J J J (lb J) (fun w1 hs=>Qf (Lv a b c d w1 ha hb hc hd)) ?_
 rintro⟨eA,ec⟩ -
 refine N9 ?_;refine cZ (fun c1=> ?_) (fun c1=> ?_)
 ·omega
 ·refine S7 ?_;refine a9 (jM Qa J J (fun w h=>WK _ _ _ w hc hd ha)) ?_;refine S8 ?_;refine a9 (jM Qa J J (fun w h=>WK _ _ _ w hc hd hb)) ?_;refine S9 ?_;refine cZ (fun c2=> ?_) (fun c2=> ?_)
  ·have r1:=H5 ((b.1- a.1) * -tn c d a) (-(tn c d a- tn c d b)) 288230376151711744 Om Om Om
   have r2:=H5 ((b.2- a.2) * -tn c d a) (-(tn c d a- tn c d b)) 288230376151711744 Om Om Om
   rw [if_pos c2] at e1 e2
   refine S3 ?_;refine a9 (yK J J Om Om) ?_;refine S4 ?_;refine a9 (yK J J Om Om) ?_;refine S4 ?_;refine Qv 26 [4] ?_;refine dK 0 ?_;refine dK 1 ?_;refine dK 2 ?_;refine dK 3 ?_;refine dK 4 ?_;refine dK 5 ?_;refine dK 6 ?_;refine dK 7 ?_;refine dK 8 ?_;refine dK 9 ?_;refine dZ 10 J (jM wC J J (fun w h=>Calls.still (UG _ _ w Om Om Om Om))) ?_;refine dK 11 ?_;refine dK 12 ?_;refine dK 13 ?_;refine dK 14 ?_;refine dK 15 ?_;refine dK 16 ?_;refine dK 17 ?_;refine dK 18 ?_;refine dK 19 ?_;refine dK 20 ?_;refine dK 21 ?_;refine dZ 22 J (jM wC J J (fun w h=>Calls.still (UG _ _ w Om Om Om Om))) ?_;refine dK 23 ?_;refine dZ 24 J (JR J J (q8 J J)) ?_;refine J7 (i:=25) J Dc Kr J ?_;refine S1 ?_;refine JN (uw [4] J) ?_;refine JJ Kr ?_;refine S2 ?_;refine jK J (J8 (k:=4) J jk J J) ?_
   intro w' hs
   exact⟨by rw [eP,e1,e2],hs.fin⟩
  ·have r1:=H5 ((b.1- a.1) *tn c d a) (tn c d a- tn c d b) 288230376151711744 Om Om Om
   have r2:=H5 ((b.2- a.2) *tn c d a) (tn c d a- tn c d b) 288230376151711744 Om Om Om
   rw [if_neg (jkn.2 c2)] at e1 e2
   refine S4 ?_;refine Qv 26 [4] ?_;refine dK 0 ?_;refine dK 1 ?_;refine dK 2 ?_;refine dK 3 ?_;refine dK 4 ?_;refine dK 5 ?_;refine dK 6 ?_;refine dK 7 ?_;refine dK 8 ?_;refine dK 9 ?_;refine dZ 10 J (jM wC J J (fun w h=>Calls.still (UG _ _ w Om Om Om Om))) ?_;refine dK 11 ?_;refine dK 12 ?_;refine dK 13 ?_;refine dK 14 ?_;refine dK 15 ?_;refine dK 16 ?_;refine dK 17 ?_;refine dK 18 ?_;refine dK 19 ?_;refine dK 20 ?_;refine dK 21 ?_;refine dZ 22 J (jM wC J J (fun w h=>Calls.still (UG _ _ w Om Om Om Om))) ?_;refine dK 23 ?_;refine dZ 24 J (JR J J (q8 J J)) ?_;refine J7 (i:=25) J Dc Kr J ?_;refine S1 ?_;refine JN (uw [4] J) ?_;refine JJ Kr ?_;refine S2 ?_;refine jK J (J8 (k:=4) J jk J J) ?_
   intro w' hs
   exact⟨by rw [eP,e1,e2],hs.fin⟩
section
variable {P:Program} {n:Nat} {env:List (Nat×Value)} {w0:Bs} {Rs:List Res} {ops:Array Oper} {Q:Exit→Act→World→Prop} {K:Act→World→Prop} {o:Oper}
theorem qN {f d:Nat} (hfn:FnOk P f) {xs:List Operand} {X:Type} {v:X→Value} {r:Res} {r':X→Res} (ho:o.op= .call {callee:= .value (.func f),args:=xs.toArray,argTypes:=ts}) (hx:Nm env xs=some vs) (hd:o.dst=some d) (hn:d<n) (hk:Rs[k]? =some r) (hc:∀w,St w0 Rs w→Calls P f vs.toArray w fun e w'=>∃x,e= .returned (v x)∧Wrs r.F w w'∧(r' x).P w'∧(∀b,(r' x).F b→r.F b∨w.heap.size≤b)∧(r' x).B=0) (h:∀x,At n ((d,v x) ::env) w0 (Rs.set k (r' x)) K) :At n env w0 Rs (fun a w=>o.wp P a w K Q) :=fun a w hF' hs=>by
 show o.upon P a K Q ((execOp a.eval o).run P w)
 rw [ZG hfn ho hx hF']
 refine Calls.mono (hc w hs) ?_
 rintro e w' ⟨x,rfl,hw,hp,hF,hB⟩
 have hlow:= (hs.all k _ hk).2.1
 show K (a.put o.dst (v x)) w'
 rw [hd]
 refine h x _ _ (hF'.put hn _) (hs.upd hk ⟨hw.os.trans hs.over.os,hw.tape.trans hs.over.tape,hw.output.trans hs.over.output,jkh hs.over.size hw.size,fun c hc' hx'=> ?_⟩ hw.size (fun c hc' hne=>hw.block c hc' hne) hp (fun c hc'=>hF c hc') hB)
 rw [hw.block c (jjy hc' hs.over.size) (fun e=> (hlow c e).elim (fun h1=>by omega) (fun h1=>hx' h1))]
 exact hs.over.block c hc' hx'
theorem jbM (k:Nat) {B T s m:Nat} {xs:List Value} (hk:Rs[k]? =some (.row B T s v m xs)) (h:At n env w0 (Rs.set k (.row 0 T s v m xs)) K) :At n env w0 Rs K:=fun a w hf hs=>
 h a w hf (hs.chg hk (fun hP=>UJ hP (jjo _)) (fun c hc=>hc) rfl)
end
theorem E4 {env:List (Nat×Value)} (h:∀w1,St w0 Rs w1→At n env ⟨w1,[]⟩ [] K) :At n env w0 Rs K:=fun a w hf hs=>h w hs a w hf (St.start w)
abbrev yD (xs:List Pn) (x:Nat×Nat) :Res:=J3 0 28 2 xs.length (xs.flatMap Jr) (some ⟨x.1,0,none⟩,x.2)
theorem WL (p q:Pn) (w:World) :Calls Tryz.prog 156 #[pV p,pV q] w fun e w'=>e= .returned (.bool (decide (vG p q)))∧Over w w':=by
 refine j6 (m:=24) (Tryz.func156) J J (lb J) ?_;refine S3 ?_;refine aX (fun b1=> ?_);refine N1 ?_;refine aX (fun b2=> ?_);refine N10 ?_;refine cV 10 (fun g1=> ?_) (fun g1=> ?_)
 ·refine S16 ?_;refine jK J (.tmp J) ?_
  intro w' hs
  exact⟨congrArg Ending.returned (congrArg Value.bool (jjT.2 (Iff.trans (b:=vG p q) (by simp [vG];omega) decide_eq_true_iff.symm))),hs.fin⟩
 ·refine S12 ?_;refine cV 16 (fun g2=> ?_) (fun g2=> ?_)
  ·refine S16 ?_;refine jK J (.tmp J) ?_
   intro w' hs
   exact⟨congrArg Ending.returned (congrArg Value.bool (jjT.2 (Iff.trans (b:=vG p q) (by simp [vG];omega) decide_eq_true_iff.symm))),hs.fin⟩
  ·refine S11 ?_;refine jK J (.tmp J) ?_
   intro w' hs
   exact⟨congrArg Ending.returned (congrArg Value.bool (jjT.2 (Iff.trans (b:=vG p q) (by simp [vG];omega) decide_eq_true_iff.symm))),hs.fin⟩
theorem jaR (h:¬(0<k∧vG p (pt xs (k- 1)))) :wU xs p k=k:=by
 cases k with
 | zero=>rfl
 | succ k=>
  rw [wU,if_neg]
  intro h1
  exact h ⟨by omega,h1⟩
theorem jaQ (h:0<k∧vG p (pt xs (k- 1))) :wU xs p (k- 1) =wU xs p k:=by
 cases k with
 | zero=>rfl
 | succ k=>
  show wU xs p k=wU xs p (k+1)
  rw [wU,if_pos (show vG p (pt xs k) from h.2)]
theorem ji8 {j:Nat} : ((px xs j==p.1) && (py xs j==p.2)) =decide (pt xs j=p) :=by
 rw [jjT]
 simp [pt,Prod.ext_iff]
theorem jdI (h:k=wU xs p xs.length) (hk:0<k∧pt xs (k- 1) =p) :Vq xs p=xs:=by
 subst h
 rw [Vq,if_pos hk]
theorem jdH (h:k=wU xs p xs.length) (hk:¬(0<k∧pt xs (k- 1) =p)) :Vq xs p=xs.take k++p::xs.drop k:=by
 subst h
 rw [Vq,if_neg hk]
theorem xW (g c n:Nat) (xs:List Pn) (p:Pn) (w:World) (h:Pts w (some ⟨g,0,none⟩) n xs) (hc:n≤c) (hn:n≤1048576) :
  Calls Tryz.prog 104 #[.slice (some ⟨g,0,none⟩) n c,pV p] w fun e w'=> (e= .returned (.slice (some ⟨g,0,none⟩) n c)∧Vq xs p=xs∧Over w w')∨∃v,e= .returned v∧w'.ownsRow w.heap.size 28 2 v (Vq xs p).length ((Vq xs p).flatMap Jr)∧Over w w':=by
 have hl:=h.1
 refine j6 (m:=48) (Tryz.func104) J J (lb J) ?_;refine S3 ?_;refine aX (fun b1=> ?_);refine N10 ?_;refine qv (X:=Nat) (fun k=>k≤n∧wU xs p k=wU xs p n) (fun k=>k) (fun k=> [(5, .int .i64 (k:Int))]) (kK [0,3,4]) n (⟨jjm _,J⟩) ⟨J,sz⟩ ?_
 intro k hk L hL1
 refine V1 ?_;refine qt [(19, .bool (decide (0<k∧vG p (pt xs (k- 1)))))] (kK [0,3,4,5]) (fun L h_2=> ?_) ?_
 ·refine S1 ?_;refine JS 11 ?_;refine dK 0 ?_;refine dK 1 ?_;refine dK 2 ?_;refine cV 11 (fun g1=> ?_) (fun g1=> ?_)
  ·refine eK 3 ?_;refine eK 4 ?_;refine eK 5 ?_;refine eZ 6 J ((JF J J J Om Om).as (congrArg _ (show((k:Int) - 1) = ((k- 1:Nat) :Int) by omega))) ?_;refine eK 7 ?_;refine eZ 8 J (jl J J jk J (wQ h Om)) ?_;refine eZ 9 J (jM Ku J J (fun w _=>WL p (pt xs (k- 1)) w)) ?_;refine dK 10 ?_;refine JJ Kr ?_;refine S1 ?_
   exact Jo h_2 ⟨vb (by simp;omega),sz⟩ (u9 J)
  ·refine fK 3 ?_;refine fK 4 ?_;refine fK 5 ?_;refine fK 6 ?_;refine fK 7 ?_;refine fK 8 ?_;refine fK 9 ?_;refine dK 10 ?_;refine JJ Kr ?_;refine S1 ?_
   exact Jo h_2 ⟨vb (by simp;omega),sz⟩ (u9 J)
 ·refine v9 ?_;refine cZ (fun c1=> ?_) (fun c1=> ?_)
  ·refine S10 ?_
   exact qf hL1 (k- 1) (⟨by omega,(jaQ c1).trans hk.2⟩) Om ⟨vi Om,sz⟩ (u9 J)
  ·have hpos:k=wU xs p xs.length:=by rw [hl,←hk.2,jaR c1]
   refine S6 ?_;refine qt [(32, .bool (decide (0<k∧pt xs (k- 1) =p)))] (kK [0,3,4,5]) (fun L h_4=> ?_) ?_
   ·refine S1 ?_;refine JS 11 ?_;refine dK 0 ?_;refine dK 1 ?_;refine dK 2 ?_;refine cV 24 (fun g2=> ?_) (fun g2=> ?_)
    ·refine eK 3 ?_;refine eK 4 ?_;refine eZ 5 J ((JF J J J Om Om).as (congrArg _ (show((k:Int) - 1) = ((k- 1:Nat) :Int) by omega))) ?_;refine eK 6 ?_;refine eZ 7 J (jl J J jk J (wQ h Om)) ?_;refine eK 8 ?_;refine eK 9 ?_;refine dK 10 ?_;refine JJ Kr ?_;refine S1 ?_
     exact Jo h_4 ⟨vb (by rw [ji8];simp;omega),sz⟩ (u9 J)
    ·refine fK 3 ?_;refine fK 4 ?_;refine fK 5 ?_;refine fK 6 ?_;refine fK 7 ?_;refine fK 8 ?_;refine fK 9 ?_;refine dK 10 ?_;refine JJ Kr ?_;refine S1 ?_
     exact Jo h_4 ⟨vb (by rw [decide_eq_false (fun h=>absurd h.1 Om)]),sz⟩ (u9 J)
   ·refine v9 ?_;refine cZ (fun c2=> ?_) (fun c2=> ?_)
    ·refine S7 ?_;refine jK J (.tmp J) ?_
     intro w' hs
     exact .inl ⟨rfl,jdI hpos c2,hs.fin⟩
    ·have hput:=jdH hpos c2
     have hpl: (Vq xs p).length=0+k+1+ (n- k) :=by rw [hput,jjk,jjr,jjC,jjO];omega
     refine S5 ?_;refine Jy J J (KR) J (lb J) (fun b2=> ?_);refine Wi 1 2 J J ?_;refine N2 ?_;refine a9 ((Kv J J J jD Om).as (ue _ _ _ _ _)) ?_;refine S1 ?_;refine JY (k:=1) J jD jI Dc J Dc J J J (fun w' hs=>Rh (h.over hs.fin) Om) (wj _) (by unfold maxLen;omega) Om (jjm _) (fun r1=> ?_);refine N7 ?_;refine Jy J J (qT J) J (lb J) (fun b3=> ?_);refine N1 ?_;refine JY (k:=1) J jD jI Dc J Dc J J J (fun w' hs=>Qb hs (k:=2) J J) (by simp [Value.oneCell']) (by unfold maxLen;omega) Om (jjm _) (fun r2=> ?_);refine N7 ?_;refine a9 ((VM J J J jD Om).as (UK (b:=g) (o:=0) (l:=k) (h:=n) (m:=c) (s:=2) hc Om)) ?_;refine S1 ?_;refine JY (k:=1) J jD jI Dc J Dc J J J (fun w' hs=>jgi (h.over hs.fin) Om hc) (wj _) (by unfold maxLen;omega) Om (jjm _) (fun r3=> ?_);refine N3 ?_;refine jK J (.tmp J) ?_
     intro w' hs
     have hr:= (hs.all 1 _ rfl).1
     exact .inr ⟨_,rfl,by rw [hpl,hput,jjv,jjH,←jjq];exact hr,hs.fin⟩
theorem jf0 (h: (yD xs (g,c)).P w) (hn:xs.length≤1048576) :
  Calls Tryz.prog 104 #[.slice (some ⟨g,0,none⟩) xs.length c,pV p] w fun e w'=>∃x:Nat×Nat,e= .returned (.slice (some ⟨x.1,0,none⟩) (Vq xs p).length x.2)∧Wrs (yD xs (g,c)).F w w'∧(yD (Vq xs p) x).P w'∧(∀b,(yD (Vq xs p) x).F b→(yD xs (g,c)).F b∨w.heap.size≤b)∧(yD (Vq xs p) x).B=0:=by
 refine(xW g c xs.length xs p w (ub h J) (Uo h) hn).mono ?_
 rintro e w' (⟨rfl,hp,hO⟩ |⟨v,rfl,hr,hO⟩)
 ·refine⟨(g,c),by rw [hp],Wrs.of hO,?_,fun b hb=> .inl (by rw [hp] at hb;exact hb),J⟩
  rw [hp]
  exact(yD xs (g,c)).dep w w' h hO.size fun b hb _=>hO.out.block b hb
 ·obtain ⟨x,rfl⟩ :=uN hr
  have h0:0< (Vq xs p).length:=List.length_pos_of_mem (GA.2 (.inr rfl))
  have hs:∃g2,x.1=some ⟨g2,0,none⟩ :=by
   rcases hr.2 with⟨_,e⟩ |⟨g2,cap,cur,e,_⟩
   ·omega
   ·injection e with e1
    exact⟨g2,e1⟩
  obtain ⟨g2,hg2⟩ :=hs
  obtain ⟨xA,xc⟩ :=x
  simp only at hg2
  subst hg2
  exact⟨(g2,xc),rfl,Wrs.of hO,UJ hr (jjo _),fun b hb=> .inr (hr.lt b hb).1,rfl⟩
def U0 (w1:World) (g:Nat) (xs:List Pn) (x:Nat×Nat) :Res:=if x.1<w1.heap.size then {F:=fun _=>False,P:=fun _=>x.1=g∧(yD xs x).P w1,low:=fun _ _ _ h=>h.elim,B:=0,dep:=fun _ _ h _ _=>h} else yD xs x
theorem Ir (w1:World) (g:Nat) (xs:List Pn) (x:Nat×Nat) : (U0 w1 g xs x).B=0:=by unfold U0;split<;>rfl
theorem jcA (h: (U0 w1 g xs x).P w') (hO:Over w1 w') : (yD xs x).P w'∧(x.1=g∨w1.heap.size≤x.1) :=by
 unfold U0 at h
 split at h
 ·exact⟨(yD xs x).dep w1 w' h.2 hO.size fun b hb _=>hO.out.block b hb, .inl h.1⟩
 ·rename_i hn
  exact⟨h, .inr Om⟩
theorem jhj {b:Nat} (h: (yD xs x).F b) :b=x.1:=by
 have h:some x.1=some b:=h
 injection h with h
 exact h.symm
theorem SN (h: (yD xs x).P w') (hx:w1.heap.size≤x.1) : (U0 w1 g xs x).P w':=by
 unfold U0
 rw [if_neg Om]
 exact h
theorem jfZ (h: (yD xs (g,c)).P w1) (hO:Over w1 w') (hn:xs.length≤1048576) :
  Calls Tryz.prog 104 #[.slice (some ⟨g,0,none⟩) xs.length c,pV p] w' fun e w''=>∃x:Nat×Nat,e= .returned (.slice (some ⟨x.1,0,none⟩) (Vq xs p).length x.2)∧Over w' w''∧(U0 w1 g (Vq xs p) x).P w''∧(∀b,(U0 w1 g (Vq xs p) x).F b→w'.heap.size≤b)∧(U0 w1 g (Vq xs p) x).B=0∧True:=by
 have hg:g<w1.heap.size:= (yD xs (g,c)).low w1 h g rfl
 have h':= (yD xs (g,c)).dep w1 w' h hO.size fun b hb _=>hO.out.block b hb
 refine(xW g c xs.length xs p w' (ub h' J) (Uo h') hn).mono ?_
 rintro e w'' (⟨rfl,hp,hO'⟩ |⟨v,rfl,hr,hO'⟩)
 ·refine⟨(g,c),by rw [hp],hO',?_,fun b hb=> ?_,Ir _ _ _ _,trivial⟩
  ·rw [hp]
   unfold U0
   rw [if_pos hg]
   exact⟨rfl,h⟩
  ·unfold U0 at hb
   rw [if_pos hg] at hb
   exact hb.elim
 ·obtain ⟨x,rfl⟩ :=uN hr
  have h0:0< (Vq xs p).length:=List.length_pos_of_mem (GA.2 (.inr rfl))
  obtain ⟨g2,hg2⟩ :∃g2,x.1=some ⟨g2,0,none⟩ :=by
   rcases hr.2 with⟨_,e⟩ |⟨g2,cap,cur,e,_⟩
   ·omega
   ·injection e with e1
    exact⟨g2,e1⟩
  obtain ⟨xA,xc⟩ :=x
  simp only at hg2
  subst hg2
  have hlt:=hr.lt g2 rfl
  refine⟨(g2,xc),J,hO',SN (UJ hr (jjo _)) (jkh hO.size hlt.1),fun b hb=> ?_,Ir _ _ _ _,trivial⟩
  unfold U0 at hb
  split at hb
  ·exact hb.elim
  ·rw [jhj hb];exact hlt.1
theorem jaT {g1:Nat} (h: (U0 w1 g xs (g1,c)).P w') (hO:Over w1 w') (hn:xs.length≤1048576) :
  Calls Tryz.prog 104 #[.slice (some ⟨g1,0,none⟩) xs.length c,pV p] w' fun e w''=>∃x:Nat×Nat,e= .returned (.slice (some ⟨x.1,0,none⟩) (Vq xs p).length x.2)∧Wrs (U0 w1 g xs (g1,c)).F w' w''∧(U0 w1 g (Vq xs p) x).P w''∧(∀b,(U0 w1 g (Vq xs p) x).F b→(U0 w1 g xs (g1,c)).F b∨w'.heap.size≤b)∧(U0 w1 g (Vq xs p) x).B=0:=by
 have h':= (jcA h hO).1
 refine(xW g1 c xs.length xs p w' (ub h' J) (Uo h') hn).mono ?_
 rintro e w'' (⟨rfl,hp,hO'⟩ |⟨v,rfl,hr,hO'⟩)
 ·refine⟨(g1,c),by rw [hp],Wrs.of hO',?_,fun b hb=> .inl (by rw [hp] at hb;exact hb),Ir _ _ _ _⟩
  rw [hp]
  exact(U0 w1 g xs (g1,c)).dep w' w'' h hO'.size fun b hb _=>hO'.out.block b hb
 ·obtain ⟨x,rfl⟩ :=uN hr
  have h0:0< (Vq xs p).length:=List.length_pos_of_mem (GA.2 (.inr rfl))
  obtain ⟨g2,hg2⟩ :∃g2,x.1=some ⟨g2,0,none⟩ :=by
   rcases hr.2 with⟨_,e⟩ |⟨g2,cap,cur,e,_⟩
   ·omega
   ·injection e with e1
    exact⟨g2,e1⟩
  obtain ⟨xA,xc⟩ :=x
  simp only at hg2
  subst hg2
  have hlt:=hr.lt g2 rfl
  refine⟨(g2,xc),J,Wrs.of hO',SN (UJ hr (jjo _)) (jkh hO.size hlt.1),fun b hb=> .inr ?_,Ir _ _ _ _⟩
  unfold U0 at hb
  split at hb
  ·exact hb.elim
  ·rw [jhj hb];exact hlt.1
theorem jeI {env:List (Nat×Value)} {Rs2:List Res} (hs1:St w0 Rs w1) (k j:Nat) {xs2:List Pn} {x2:Nat×Nat} (hk:Rs[k]? =some (yD xs (g,c))) (hj:Rs2[j]? =some (U0 w1 g xs2 x2)) (h:At n env w0 (Rs.set k (yD xs2 x2)) K) :At n env ⟨w1,[]⟩ Rs2 K:=fun a w' hf hs=>by
 have hO:Over w1 w':=hs.fin
 obtain ⟨hP,hx⟩ :=jcA (hs.all j _ hj).1 hO
 refine h a w' hf (hs1.upd hk ⟨hO.out.os.trans hs1.over.os,hO.out.tape.trans hs1.over.tape,hO.out.output.trans hs1.over.output,jkh hs1.over.size hO.size,fun c hc' hx'=> ?_⟩ hO.size (fun b hb _=>hO.out.block b hb) hP (fun b hb=> ?_) J)
 ·exact(hO.out.block c (jjy hc' hs1.over.size)).trans (hs1.over.block c hc' hx')
 ·have e:=jhj hb
  rcases hx with h1 | h1
  ·left;show some g=some b;rw [e,h1]
  ·right;omega
def cz (ls:List Leg) (i:Nat) :Nat→List Pn
 | 0=> []
 | k+1=>cz ls i k++ (if Qd (lA (lg ls i)) (lB (lg ls i)) (lA (lg ls k)) (lB (lg ls k)) =2 then [Hg (lA (lg ls i)) (lB (lg ls i)) (lA (lg ls k)) (lB (lg ls k))] else [])
def yf (ls:List Leg) :Nat→List Pn
 | 0=> []
 | i+1=>yf ls i++ [lA (lg ls i),lB (lg ls i)] ++cz ls i i
theorem NG (ls:List Leg) (i:Nat) :∀k,(cz ls i k).length≤k
 | 0=>jjm _
 | k+1=>by
  have:=NG ls i k
  unfold cz
  rw [jjk]
  split<;>simp<;>omega
theorem YN (ls:List Leg) :∀i,(yf ls i).length≤i* (i+2)
 | 0=>jjm _
 | i+1=>by
  have h1:=YN ls i
  have h2:=NG ls i i
  unfold yf
  rw [jjk,jjk]
  simp only [jjr,jjK]
  have e: (i+1) * (i+1+2) =i* (i+2) +2*i+3:=by simp only [Nat.add_mul,Nat.mul_add];omega
  omega
def Um (ls:List Leg) (i k:Nat) :List Pn:=yf ls i++ [lA (lg ls i),lB (lg ls i)] ++cz ls i k
theorem Ea (hi:i<400) (hk:k≤i) : (Um ls i k).length≤170000:=by
 have h1:=YN ls i
 have h2:=NG ls i k
 have h3:i* (i+2)≤400*402:=jkH Om Om
 unfold Um
 rw [jjk,jjk]
 simp only [jjr,jjK]
 omega
theorem TN (xs:List Pn) (p:Pn) : (Vq xs p).length≤xs.length+1:=by
 have:=MP xs p xs.length
 unfold Vq
 split
 ·omega
 ·rw [jjk,jjr,jjC,jjO];omega
theorem jan (l:List Pn) :∀xs,(l.foldl Vq xs).length≤xs.length+l.length:=by
 induction l with
 | nil=>intro xs;exact jjm _
 | cons p l ih=>
  intro xs
  have h1:=ih (Vq xs p)
  have h2:=TN xs p
  rw [jkk,jjr]
  omega
theorem YX (l:List Pn) : (kJ l).length≤l.length:=by have:=jan l [];simpa [kJ] using this
theorem PD (l:List Pn) (p:Pn) :kJ (l++ [p]) =Vq (kJ l) p:=by simp [kJ,jle]
theorem TM (ls:List Leg) (i:Nat) :kJ (Um ls i 0) =Vq (Vq (kJ (yf ls i)) (lA (lg ls i))) (lB (lg ls i)) :=by
 simp [Um,cz,kJ,jle]
theorem Br (h:Qd (lA (lg ls i)) (lB (lg ls i)) (lA (lg ls k)) (lB (lg ls k)) =2) :kJ (Um ls i (k+1)) =Vq (kJ (Um ls i k)) (Hg (lA (lg ls i)) (lB (lg ls i)) (lA (lg ls k)) (lB (lg ls k))) :=by
 rw [←PD,Um,cz,if_pos h,←jjq]
 rfl
theorem FF (h:¬Qd (lA (lg ls i)) (lB (lg ls i)) (lA (lg ls k)) (lB (lg ls k)) =2) :kJ (Um ls i (k+1)) =kJ (Um ls i k) :=by
 rw [Um,cz,if_neg h,jjL]
 rfl
theorem jgE {b o:Nat} (h:Legs w (some ⟨b,o,none⟩) n ls) (hn:0<n) :b<w.heap.size:=by
 obtain ⟨b',o',e,hb,_⟩ :=h.2 hn
 injection e with e
 injection e with e1 e2
 subst e1
 exact hb
theorem vy {B N T s:Nat} {xs:List Value} (h:w.ownsRow B T s v n xs) (hN:∀b,v.ownBlock=some b→N≤b) :w.ownsRow N T s v n xs:=by
 refine⟨h.1,?_⟩
 rcases h.2 with e |⟨g,cap,cur,rfl,hb,rest⟩
 ·exact .inl e
 ·exact .inr ⟨g,cap,cur,rfl,hN g rfl,rest⟩
theorem ON (A:Option Addr) (n c:Nat) (ls:List Leg) (w:World) (h:Legs w A n ls) (hok:∀l∈ls,qM l) (hn:n≤400) :
  Calls Tryz.prog 51 #[.slice A n c] w fun e w'=>∃v,e= .returned v∧w'.ownsRow w.heap.size 28 2 v (kJ (yf ls n)).length ((kJ (yf ls n)).flatMap Jr)∧Over w w':=by
 have hl:=h.1
 refine j6 (m:=81) (Tryz.func51) J J (lb J) ?_;refine S7 ?_;refine Jy J J (KR) J (lb J) (fun b1=> ?_);refine Wi 0 2 J J ?_;refine N2 ?_;refine jbM 0 J ?_;refine t9 ?_;refine S6 ?_;refine JX (X:=Nat×Nat×Nat) (fun x=>x.1≤n) (fun x=>n- x.1) (fun x=> [(3, .slice (some ⟨x.2.1,0,none⟩) (kJ (yf ls x.1)).length x.2.2),(4, .int .i64 (x.1:Int))]) (kK [0,2]) (fun x=> [yD (kJ (yf ls x.1)) x.2]) (0,b1,0) (jjo _) ⟨J,sz⟩ (fun _ h=>h) ?_
 intro⟨i,g,gc⟩ hi L hL1
 refine v9 ?_;refine r9 ?_
 have hi:i≤n:=hi
 refine S8 ?_;refine cZ (fun c1=> ?_) (fun c1=> ?_)
 ·have hlt:i<n:=Om
  obtain ⟨eb,eo,rfl,_⟩ :=h.2 Om
  have hhl:=YN ls i
  have hh2:i* (i+2)≤400*402:=jkH Om Om
  have hpa:=YX (yf ls i)
  have hpb:=TN (kJ (yf ls i)) (lA (lg ls i))
  refine S12 ?_
  refine E4 fun w1 hs1=> ?_
  have h1:=h.over hs1.fin
  have hp1:= (hs1.all 0 _ rfl).1
  refine S1 ?_;refine JS 10 ?_;refine dV 0 [5] ?_;refine dV 1 [2,3,4,5] ?_;refine dV 2 [3,4,5] ?_;refine dV 3 [4,5] ?_;refine d9 4 rfl [5] (u9 rfl) (jl rfl rfl jk rfl (by first | exact Qn (b:=eb) (o:=eo) (j:=i) (fun w' hs=>h.over hs.fin) hlt | exact q5 (b:=eb) (o:=eo) (j:=i) (fun w' hs=>h.over hs.fin) hlt | exact Qn (b:=eb) (o:=eo) (j:=k) (fun w' hs=>h.over hs.fin) hkl | exact q5 (b:=eb) (o:=eo) (j:=k) (fun w' hs=>h.over hs.fin) hkl | exact Qn (b:=eb) (o:=eo) (j:=i) (fun w' hs=>h1.over hs.fin) hlt | exact q5 (b:=eb) (o:=eo) (j:=i) (fun w' hs=>h1.over hs.fin) hlt)) ?_;refine dV 6 [7,8,9] ?_;refine dV 7 [8,9] ?_;refine dV 8 [9] ?_;refine dZ 9 rfl (jl rfl rfl jk rfl (by first | exact Qn (b:=eb) (o:=eo) (j:=i) (fun w' hs=>h.over hs.fin) hlt | exact q5 (b:=eb) (o:=eo) (j:=i) (fun w' hs=>h.over hs.fin) hlt | exact Qn (b:=eb) (o:=eo) (j:=k) (fun w' hs=>h.over hs.fin) hkl | exact q5 (b:=eb) (o:=eo) (j:=k) (fun w' hs=>h.over hs.fin) hkl | exact Qn (b:=eb) (o:=eo) (j:=i) (fun w' hs=>h1.over hs.fin) hlt | exact q5 (b:=eb) (o:=eo) (j:=i) (fun w' hs=>h1.over hs.fin) hlt)) ?_;refine J7 (i:=5) J Dc Kr J ?_;refine JU U7 (v:=fun x:Nat×Nat=> .slice (some ⟨x.1,0,none⟩) _ x.2) (r:=fun x=>U0 w1 _ _ x) (H:=fun _=>True) J J J (lb J) (fun w2 hs=>jfZ (p:=lA (lg ls i)) hp1 hs.fin Om) ?_
  rintro⟨g1,gc1⟩ -
  refine n9 ?_;refine UD (u9 J) ?_;refine KV J Kr J ?_;refine qN (k:=0) (v:=fun x:Nat×Nat=> .slice (some ⟨x.1,0,none⟩) _ x.2) (r':=fun x=>U0 w1 _ _ x) U7 J J J Dc J (fun w2 hs=>jaT (p:=lB (lg ls i)) (hs.all 0 _ J).1 hs.fin Om) ?_
  rintro⟨g2,gc2⟩
  refine n9 ?_;refine JS 12 ?_;refine dK 11 ?_;refine JJ Kr ?_;refine jeI hs1 0 0 J J ?_;refine t9 ?_
  rw [←TM]
  refine S6 ?_;refine JX (X:=Nat×Nat×Nat) (fun x=>x.1≤i) (fun x=>i- x.1) (fun x=> [(3, .slice (some ⟨x.2.1,0,none⟩) (kJ (Um ls i x.1)).length x.2.2),(6, .int .i64 (x.1:Int))]) (kK [0,2,4,9,10,11,12,15,16,17,5,18,19,20,21,22,24,25,26,27,23,28]) (fun x=> [yD (kJ (Um ls i x.1)) x.2]) (0,g2,gc2) (jjo _) ⟨J,sz⟩ (fun _ h=>h) ?_
  intro⟨k,g,gc⟩ hk L hL2
  refine v9 ?_;refine r9 ?_
  have hk:k≤i:=hk
  refine S7 ?_;refine cZ (fun c2=> ?_) (fun c2=> ?_)
  ·have hkt:k<i:=Om
   have hkl:k<n:=Om
   have hpl:=Ea (ls:=ls) (k:=k) (show i<400 by omega) hk
   have hpa:=YX (Um ls i k)
   refine S11 ?_;refine qt [(60, .bool (decide (Qd (lA (lg ls i)) (lB (lg ls i)) (lA (lg ls k)) (lB (lg ls k)) =2)))] (kK [0,2,4,9,10,11,12,15,16,17,5,18,19,20,21,22,24,25,26,27,23,28,3,6,29,30,31,34,35,36,7]) (fun L h_11=> ?_) ?_
   ·refine S1 ?_;refine JS 24 ?_;refine dK 0 ?_;refine dK 1 ?_;refine dZ 2 J (jM HG J J (fun w1 hs=>Ix eb _ eb _ (lg ls i) (lg ls k) w1 (zB (fun w' hs=>h.over hs.fin) hlt w1 hs) (zB (fun w' hs=>h.over hs.fin) hkl w1 hs) (jgE (h.over hs.fin) Om) (jgE (h.over hs.fin) Om))) ?_;refine dK 3 ?_;refine dK 4 ?_;refine cV 41 (fun g1=> ?_) (fun g1=> ?_)
    ·refine eK 5 ?_;refine eK 6 ?_;refine eK 7 ?_;refine eZ 8 rfl (jl rfl rfl jk rfl (by first | exact Qn (b:=eb) (o:=eo) (j:=i) (fun w' hs=>h.over hs.fin) hlt | exact q5 (b:=eb) (o:=eo) (j:=i) (fun w' hs=>h.over hs.fin) hlt | exact Qn (b:=eb) (o:=eo) (j:=k) (fun w' hs=>h.over hs.fin) hkl | exact q5 (b:=eb) (o:=eo) (j:=k) (fun w' hs=>h.over hs.fin) hkl | exact Qn (b:=eb) (o:=eo) (j:=i) (fun w' hs=>h1.over hs.fin) hlt | exact q5 (b:=eb) (o:=eo) (j:=i) (fun w' hs=>h1.over hs.fin) hlt)) ?_;refine eK 9 ?_;refine eK 10 ?_;refine eK 11 ?_;refine eZ 12 rfl (jl rfl rfl jk rfl (by first | exact Qn (b:=eb) (o:=eo) (j:=i) (fun w' hs=>h.over hs.fin) hlt | exact q5 (b:=eb) (o:=eo) (j:=i) (fun w' hs=>h.over hs.fin) hlt | exact Qn (b:=eb) (o:=eo) (j:=k) (fun w' hs=>h.over hs.fin) hkl | exact q5 (b:=eb) (o:=eo) (j:=k) (fun w' hs=>h.over hs.fin) hkl | exact Qn (b:=eb) (o:=eo) (j:=i) (fun w' hs=>h1.over hs.fin) hlt | exact q5 (b:=eb) (o:=eo) (j:=i) (fun w' hs=>h1.over hs.fin) hlt)) ?_;refine eK 13 ?_;refine eK 14 ?_;refine eK 15 ?_;refine eZ 16 rfl (jl rfl rfl jk rfl (by first | exact Qn (b:=eb) (o:=eo) (j:=i) (fun w' hs=>h.over hs.fin) hlt | exact q5 (b:=eb) (o:=eo) (j:=i) (fun w' hs=>h.over hs.fin) hlt | exact Qn (b:=eb) (o:=eo) (j:=k) (fun w' hs=>h.over hs.fin) hkl | exact q5 (b:=eb) (o:=eo) (j:=k) (fun w' hs=>h.over hs.fin) hkl | exact Qn (b:=eb) (o:=eo) (j:=i) (fun w' hs=>h1.over hs.fin) hlt | exact q5 (b:=eb) (o:=eo) (j:=i) (fun w' hs=>h1.over hs.fin) hlt)) ?_;refine eK 17 ?_;refine eK 18 ?_;refine eK 19 ?_;refine eZ 20 rfl (jl rfl rfl jk rfl (by first | exact Qn (b:=eb) (o:=eo) (j:=i) (fun w' hs=>h.over hs.fin) hlt | exact q5 (b:=eb) (o:=eo) (j:=i) (fun w' hs=>h.over hs.fin) hlt | exact Qn (b:=eb) (o:=eo) (j:=k) (fun w' hs=>h.over hs.fin) hkl | exact q5 (b:=eb) (o:=eo) (j:=k) (fun w' hs=>h.over hs.fin) hkl | exact Qn (b:=eb) (o:=eo) (j:=i) (fun w' hs=>h1.over hs.fin) hlt | exact q5 (b:=eb) (o:=eo) (j:=i) (fun w' hs=>h1.over hs.fin) hlt)) ?_;refine eZ 21 J (jM Xa J J (fun w1 hs=>OL (lA (lg ls i)) (lB (lg ls i)) (lA (lg ls k)) (lB (lg ls k)) w1 (wP (kC hok Om)) (WM (kC hok Om)) (wP (kC hok Om)) (WM (kC hok Om)))) ?_;refine eK 22 ?_;refine dK 23 ?_;refine JJ Kr ?_;refine S1 ?_
     exact Jo h_11 ⟨vb (by rw [jjT];simp),sz⟩ (u9 J)
    ·refine fK 5 ?_;refine fK 6 ?_;refine fK 7 ?_;refine fK 8 ?_;refine fK 9 ?_;refine fK 10 ?_;refine fK 11 ?_;refine fK 12 ?_;refine fK 13 ?_;refine fK 14 ?_;refine fK 15 ?_;refine fK 16 ?_;refine fK 17 ?_;refine fK 18 ?_;refine fK 19 ?_;refine fK 20 ?_;refine fK 21 ?_;refine fK 22 ?_;refine dK 23 ?_;refine JJ Kr ?_;refine S1 ?_
     exact Jo h_11 ⟨vb (by rw [YC g1];rfl),sz⟩ (u9 J)
   ·refine v9 ?_;refine cZ (fun c3=> ?_) (fun c3=> ?_)
    ·refine S1 ?_;refine JS 18 ?_;refine dK 0 ?_;refine dV 1 [2,3,4,17] ?_;refine dV 2 [3,4,17] ?_;refine dV 3 [4,17] ?_;refine d9 4 rfl [17] (u9 rfl) (jl rfl rfl jk rfl (by first | exact Qn (b:=eb) (o:=eo) (j:=i) (fun w' hs=>h.over hs.fin) hlt | exact q5 (b:=eb) (o:=eo) (j:=i) (fun w' hs=>h.over hs.fin) hlt | exact Qn (b:=eb) (o:=eo) (j:=k) (fun w' hs=>h.over hs.fin) hkl | exact q5 (b:=eb) (o:=eo) (j:=k) (fun w' hs=>h.over hs.fin) hkl | exact Qn (b:=eb) (o:=eo) (j:=i) (fun w' hs=>h1.over hs.fin) hlt | exact q5 (b:=eb) (o:=eo) (j:=i) (fun w' hs=>h1.over hs.fin) hlt)) ?_;refine dV 5 [6,7,8,17] ?_;refine dV 6 [7,8,17] ?_;refine dV 7 [8,17] ?_;refine d9 8 rfl [17] (u9 rfl) (jl rfl rfl jk rfl (by first | exact Qn (b:=eb) (o:=eo) (j:=i) (fun w' hs=>h.over hs.fin) hlt | exact q5 (b:=eb) (o:=eo) (j:=i) (fun w' hs=>h.over hs.fin) hlt | exact Qn (b:=eb) (o:=eo) (j:=k) (fun w' hs=>h.over hs.fin) hkl | exact q5 (b:=eb) (o:=eo) (j:=k) (fun w' hs=>h.over hs.fin) hkl | exact Qn (b:=eb) (o:=eo) (j:=i) (fun w' hs=>h1.over hs.fin) hlt | exact q5 (b:=eb) (o:=eo) (j:=i) (fun w' hs=>h1.over hs.fin) hlt)) ?_;refine dV 9 [10,11,12,17] ?_;refine dV 10 [11,12,17] ?_;refine dV 11 [12,17] ?_;refine d9 12 rfl [17] (u9 rfl) (jl rfl rfl jk rfl (by first | exact Qn (b:=eb) (o:=eo) (j:=i) (fun w' hs=>h.over hs.fin) hlt | exact q5 (b:=eb) (o:=eo) (j:=i) (fun w' hs=>h.over hs.fin) hlt | exact Qn (b:=eb) (o:=eo) (j:=k) (fun w' hs=>h.over hs.fin) hkl | exact q5 (b:=eb) (o:=eo) (j:=k) (fun w' hs=>h.over hs.fin) hkl | exact Qn (b:=eb) (o:=eo) (j:=i) (fun w' hs=>h1.over hs.fin) hlt | exact q5 (b:=eb) (o:=eo) (j:=i) (fun w' hs=>h1.over hs.fin) hlt)) ?_;refine dV 13 [14,15,16,17] ?_;refine dV 14 [15,16,17] ?_;refine dV 15 [16,17] ?_;refine d9 16 rfl [17] (u9 rfl) (jl rfl rfl jk rfl (by first | exact Qn (b:=eb) (o:=eo) (j:=i) (fun w' hs=>h.over hs.fin) hlt | exact q5 (b:=eb) (o:=eo) (j:=i) (fun w' hs=>h.over hs.fin) hlt | exact Qn (b:=eb) (o:=eo) (j:=k) (fun w' hs=>h.over hs.fin) hkl | exact q5 (b:=eb) (o:=eo) (j:=k) (fun w' hs=>h.over hs.fin) hkl | exact Qn (b:=eb) (o:=eo) (j:=i) (fun w' hs=>h1.over hs.fin) hlt | exact q5 (b:=eb) (o:=eo) (j:=i) (fun w' hs=>h1.over hs.fin) hlt)) ?_;refine dZ 17 J (jM xj J J (fun w1 hs=>Dt (lA (lg ls i)) (lB (lg ls i)) (lA (lg ls k)) (lB (lg ls k)) w1 (wP (kC hok Om)) (WM (kC hok Om)) (wP (kC hok Om)) (WM (kC hok Om)) c3)) ?_;refine KV J Kr J ?_;refine qN (k:=0) (v:=fun x:Nat×Nat=> .slice (some ⟨x.1,0,none⟩) _ x.2) (r':=fun x=>yD _ x) U7 J J J Dc J (fun w1 hs=>jf0 (p:=Hg (lA (lg ls i)) (lB (lg ls i)) (lA (lg ls k)) (lB (lg ls k))) (hs.all 0 _ J).1 Om) ?_
     rintro⟨g3,gc3⟩
     refine n9 ?_;refine JS 20 ?_;refine dK 19 ?_;refine JJ Kr ?_;refine S7 ?_
     exact Jq hL2 ((k+1,g3,gc3)) ((show k+1≤i by omega)) (by simp only;omega) ⟨(by rw [Br c3];rfl),vi Om,sz⟩ (fun _ h=>h.upto ⟨by rw [Br c3],trivial⟩)
    ·refine S8 ?_
     exact Jq hL2 ((k+1,g,gc)) ((show k+1≤i by omega)) (by simp only;omega) ⟨(by rw [FF c3];rfl),vi Om,sz⟩ (fun _ h=>h.upto ⟨by rw [FF c3],trivial⟩)
  ·refine S11 ?_
   exact Jq hL1 ((i+1,g,gc)) ((show i+1≤n by omega)) (by simp only;omega) ⟨(by rw [show k=i by omega];rfl),vi Om,sz⟩ (fun _ h=>h.upto ⟨by rw [show k=i by omega];rfl,trivial⟩)
 ·refine S11 ?_;refine jK J (.tmp J) ?_
  intro w' hs
  have hr:=hs.all 0 _ rfl
  have hin:i=n:=by omega
  exact⟨_,rfl,by rw [←hin];exact vy hr.1 (fun b hb=> (hr.2.1 b hb).elim id (fun h=>by cases h)),hs.fin⟩
end Go.Proofs.YtbahojdbmmjkcaaGreat
