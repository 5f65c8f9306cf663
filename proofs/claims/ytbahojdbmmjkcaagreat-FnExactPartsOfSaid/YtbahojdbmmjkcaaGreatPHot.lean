import Derived.Test.YtbahojdbmmjkcaaGreatPSnapped
import Derived.Test.YtbahojdbmmjkcaaGreatPSimp
set_option linter.unusedVariables false
set_option linter.unusedSimpArgs false
namespace Go.Proofs.YtbahojdbmmjkcaaGreat
open Go Go.RowKit
variable {K:Act→World→Prop} {Rs:List Res} {c g i k n:Nat} {l xs:List Pn} {ls:List Leg} {p:Pn} {ts:Array TypeId} {v:Value} {vs:List Value} {w w' w1:World} {w0:Bs} {x:Nat×Nat}
set_option maxRecDepth 100000
set_option maxHeartbeats 4000000
def wc (p q:Pn) :Prop:=p.2<q.2∨(p.2=q.2∧p.1<q.1)
instance (p q:Pn) :Decidable (wc p q) :=by unfold wc;exact inferInstance
theorem vF {q r:Pn} (h:wc p q) (h':wc q r) :wc p r:=by unfold wc at*;omega
theorem Q7 (p:Pn) :¬wc p p:=by unfold wc;omega
theorem Ui (p q:Pn) :wc p q∨p=q∨wc q p:=by
 rcases p with⟨x,y⟩
 rcases q with⟨x',y'⟩
 simp only [wc,Prod.mk.injEq]
 omega
def Asc (l:List Pn) :Prop:=l.Pairwise wc
theorem Asc.head (h:Asc (p::l)) :∀q∈l,wc p q:= (jg4.1 h).1
theorem Asc.tail (h:Asc (p::l)) :Asc l:= (jg4.1 h).2
theorem T5:∀ {l m:List Pn},Asc l→Asc m→(∀p,p∈l↔p∈m)→l=m
 | [],[],_,_,_=>rfl
 | [],q::m,_,_,h=>absurd ((h q).2 (by simp)) (by simp)
 | p::l,[],_,_,h=>absurd ((h p).1 (by simp)) (by simp)
 | p::l,q::m,hl,hm,h=>by
  have e:p=q:=by
   rcases jgK.1 ((h p).1 (by simp)) with e | h1
   ·exact e
   ·rcases jgK.1 ((h q).2 (by simp)) with e | h2
    ·exact e.symm
    ·exact absurd (vF (hl.head q h2) (hm.head p h1)) (Q7 p)
  subst e
  congr 1
  refine T5 hl.tail hm.tail fun r=> ?_
  constructor
  ·intro hr
   rcases jgK.1 ((h r).1 (jgP _ hr)) with e | h1
   ·exact absurd (e▸hl.head r hr) (Q7 _)
   ·exact h1
  ·intro hr
   rcases jgK.1 ((h r).2 (jgP _ hr)) with e | h1
   ·exact absurd (e▸hm.head r hr) (Q7 _)
   ·exact h1
def VJ (xs:List Pn) (p:Pn) :Nat→Nat
 | 0=>0
 | k+1=>if wc p (pt xs k) then VJ xs p k else k+1
theorem Le (xs:List Pn) (p:Pn) :∀k,VJ xs p k≤k
 | 0=>jgx _
 | k+1=>by
  unfold VJ
  split
  ·have:=Le xs p k;omega
  ·exact jgx _
theorem Pa (xs:List Pn) (p:Pn) :∀k j,VJ xs p k≤j→j<k→wc p (pt xs j)
 | 0,j,_,h=>absurd h Om
 | k+1,j,h,h'=>by
  unfold VJ at h
  split at h
  ·rename_i hp
   by_cases e:j=k
   ·rw [e];exact hp
   ·exact Pa xs p k j h Om
  ·omega
theorem N0 (xs:List Pn) (p:Pn) :∀k,0<VJ xs p k→¬wc p (pt xs (VJ xs p k- 1))
 | 0,h=>absurd h (by simp [VJ])
 | k+1,h=>by
  unfold VJ at h⊢
  split at h
  ·rename_i hp
   rw [if_pos hp]
   exact N0 xs p k h
  ·rename_i hp
   rw [if_neg hp]
   exact hp
def vn (xs:List Pn) (p:Pn) :List Pn:=if 0<VJ xs p xs.length∧pt xs (VJ xs p xs.length- 1) =p then xs else xs.take (VJ xs p xs.length) ++p::xs.drop (VJ xs p xs.length)
theorem Kl (h:k<xs.length) :xs[k] =pt xs k:=yq h
theorem Xe {q:Pn} :q∈vn xs p↔q∈xs∨q=p:=by
 unfold vn
 split
 ·rename_i h
  have hle:=Le xs p xs.length
  constructor
  ·exact .inl
  ·rintro(h1 | rfl)
   ·exact h1
   ·rw [←h.2,←Kl Om]
    exact jgH _
 ·have:=jgI (VJ xs p xs.length) xs
  constructor
  ·intro h1
   rcases jgL.1 h1 with h1 | h1
   ·exact .inl (jg7 h1)
   ·rcases jgK.1 h1 with h1 | h1
    ·exact .inr h1
    ·exact .inl (jhh h1)
  ·rintro(h1 | h1)
   ·rw [←this] at h1
    rcases jgL.1 h1 with h2 | h2
    ·exact jgL.2 (.inl h2)
    ·exact jgL.2 (.inr (jgP _ h2))
   ·rw [h1];simp
theorem jbA (h:Asc xs) :Asc (vn xs p) :=by
 unfold vn
 split
 ·exact h
 ·rename_i hn
  have hle:=Le xs p xs.length
  have hs:=jhS.1 ((jgI (VJ xs p xs.length) xs).symm▸h:Asc (xs.take (VJ xs p xs.length) ++xs.drop (VJ xs p xs.length)))
  refine jhS.2 ⟨hs.1,jg4.2 ⟨fun q hq=> ?_,hs.2.1⟩,fun a ha b hb=> ?_⟩
  ·obtain ⟨j,hj,rfl⟩ :=jg1 hq
   rw [jgQ] at hj
   rw [List.getElem_drop,Kl Om]
   exact Pa xs p xs.length _ Om Om
  ·rcases jgK.1 hb with e | hb
   ·subst e
    obtain ⟨j,hj,rfl⟩ :=jg1 ha
    rw [jgJ] at hj
    rw [List.getElem_take,Kl Om]
    have hd:=N0 xs b xs.length Om
    have h1:wc (pt xs (VJ xs b xs.length- 1)) b:=by
     rcases Ui (pt xs (VJ xs b xs.length- 1)) b with h1 | h1 | h1
     ·exact h1
     ·exact absurd ⟨by omega,h1⟩ hn
     ·exact absurd h1 hd
    by_cases e:j=VJ xs b xs.length- 1
    ·rw [e];exact h1
    ·have:=jho.1 h j (VJ xs b xs.length- 1) Om Om Om
     rw [Kl Om,Kl Om] at this
     exact vF this h1
   ·exact hs.2.2 a ha b hb
def kf (l:List Pn) :List Pn:=l.foldl vn []
theorem Bq (l:List Pn) :∀xs,Asc xs→Asc (l.foldl vn xs)∧∀q,q∈l.foldl vn xs↔q∈xs∨q∈l:=by
 induction l with
 | nil=>intro xs h;exact⟨h,fun q=>by simp⟩
 | cons p l ih=>
  intro xs h
  obtain ⟨h1,h2⟩ :=ih (vn xs p) (jbA h)
  refine⟨h1,fun q=> ?_⟩
  rw [jhs,h2 q,Xe,jgK]
  constructor
  ·rintro((h | h) | h)
   ·exact .inl h
   ·exact .inr (.inl h)
   ·exact .inr (.inr h)
  ·rintro(h | h | h)
   ·exact .inl (.inl h)
   ·exact .inl (.inr h)
   ·exact .inr h
theorem ZW (l:List Pn) :Asc (kf l) := (Bq l [] List.Pairwise.nil).1
theorem yQ (l:List Pn) (q:Pn) :q∈kf l↔q∈l:=by rw [kf,(Bq l [] List.Pairwise.nil).2 q];simp
def QG:List Pn→List Pn
 | [] => []
 | [p] => [p]
 | p::q::l=>if p=q then QG (q::l) else p::QG (q::l)
theorem zx:∀(l:List Pn) (r:Pn),r∈QG l↔r∈l
 | [],_=>Iff.rfl
 | [_],_=>Iff.rfl
 | p::q::l,r=>by
  unfold QG
  split
  ·rename_i e
   rw [zx (q::l) r,e]
   simp
  ·rw [jgK,zx (q::l) r]
   simp
def Ris (l:List Pn) :Prop:=l.Pairwise fun p q=>¬wc q p
theorem Bi:∀ {l:List Pn},Ris l→Asc (QG l)
 | [],_=>List.Pairwise.nil
 | [p],_=>jhL _ _
 | p::q::l,h=>by
  have h1:=jg4.1 h
  have ih:=Bi (l:=q::l) h1.2
  unfold QG
  split
  ·exact ih
  ·rename_i hne
   refine jg4.2 ⟨fun r hr=> ?_,ih⟩
   rw [zx] at hr
   have hpq:wc p q:=by
    rcases Ui p q with h2 | h2 | h2
    ·exact h2
    ·exact absurd h2 hne
    ·exact absurd h2 (h1.1 q (by simp))
   rcases jgK.1 hr with e | hr
   ·rw [e];exact hpq
   ·have h3:= (jg4.1 h1.2).1 r hr
    unfold wc at*
    omega
theorem EZ {m:List Pn} (hs:Ris m) (hp:∀q,q∈m↔q∈l) :QG m=kf l:=
 T5 (Bi hs) (ZW l) fun q=>by rw [zx,hp,yQ]
theorem TE (x:Int) :0≤x*x:=by
 rcases Int.le_total 0 x with h | h
 ·exact jg9 h h
 ·have:=jg9 (show 0≤-x by omega) (show 0≤-x by omega)
  grind
def Cd (a b c d:Pn) :Int:=Zc a.1 a.2 b.1 b.2 c.1 c.2 d.1 d.2
def crN (a c d:Pn) :Int:=GZ a.1 a.2 c.1 c.2 d.1 d.2
def DF (a b c d:Pn) :Pn:= (On a.1 b.1 (crN a c d) (Cd a b c d),On a.2 b.2 (crN a c d) (Cd a b c d))
theorem XN (a b c d:Pn) :Cd a b c d=tn c d a- tn c d b:=by
 unfold Cd Zc tn Kc
 grind
theorem ZB (a c d:Pn) :crN a c d=tn c d a:=by
 unfold crN GZ tn Kc
 grind
theorem u7 {a b c d:Pn} (h:qU a b c d=true) :Cd a b c d≠0:=by
 rw [XN]
 simp only [qU,jgy,decide_eq_true_eq] at h
 intro e
 have e':tn c d a=tn c d b:=by omega
 rw [e'] at h
 have:=TE (wZ (tn c d b))
 omega
theorem jaV {a b c d:Pn} (h:Q4 a b c d=2) : (Q3 a b c d).length=0∧Cd a b c d≠0:=by
 unfold Q4 at h
 split at h
 ·rename_i h0
  split at h
  ·rename_i h1;exact⟨h0,u7 h1⟩
  ·omega
 ·split at h<;>omega
def zQ (p:Pn) :Prop:= (-1152921504606846976≤p.1∧p.1≤1152921504606846976)∧-1152921504606846976≤p.2∧p.2≤1152921504606846976
theorem bd2.wide (h:bd2 p) :zQ p:=by
 obtain ⟨⟨h1,h2⟩,h3,h4⟩ :=h
 exact⟨⟨by omega,by omega⟩,by omega,by omega⟩
theorem E3 {x y n d:Int} (hx: -262144≤x∧x≤262144) (hy: -262144≤y∧y≤262144) (hn: -549755813888≤n∧n≤549755813888) (hd:d≠0) : -1152921504606846976≤On x y n d∧On x y n d≤1152921504606846976:=by
 rw [SC _ _ _ _ hd]
 split
 ·have h1:=Qr (a:=y- x) (b:= -n) (A:=524288) (B:=549755813888) Om Om Om Om
  have h2:=Gl ((y- x) * -n) (-d) 288230376151711744 Om Om Om
  omega
 ·have h1:=Qr (a:=y- x) (b:=n) (A:=524288) (B:=549755813888) Om Om Om Om
  have h2:=Gl ((y- x) *n) d 288230376151711744 Om Om Om
  omega
theorem TL {a b c:Pn} (ha:bd2 a) (hb:bd2 b) (hc:bd2 c) : -549755813888≤tn a b c∧tn a b c≤549755813888:=by
 obtain ⟨⟨a1,a2⟩,a3,a4⟩ :=ha
 obtain ⟨⟨b1,b2⟩,b3,b4⟩ :=hb
 obtain ⟨⟨c1,c2⟩,c3,c4⟩ :=hc
 exact jfy _ _ _ _ _ _ a1 a2 a3 a4 b1 b2 b3 b4 c1 c2 c3 c4
theorem jeM {a b c d:Pn} (ha:bd2 a) (hb:bd2 b) (hc:bd2 c) (hd:bd2 d) (h:Cd a b c d≠0) :zQ (DF a b c d) :=by
 have hn:=TL hc hd ha
 rw [←ZB] at hn
 exact⟨E3 ha.1 hb.1 hn h,E3 ha.2 hb.2 hn h⟩
theorem yu (h:bd2 p) :wF p.1 p.2=true:=by
 obtain ⟨⟨h1,h2⟩,h3,h4⟩ :=h
 simp [wF,Z7, *]
theorem SB (a b c d:Pn) (w:World) (ha:bd2 a) (hb:bd2 b) (hc:bd2 c) (hd:bd2 d) (h:Cd a b c d≠0) :Calls Tryz.prog 110 #[pV a,pV b,pV c,pV d] w fun e w'=>e= .returned (pV (DF a b c d))∧Over w w':=
 DG a.1 a.2 b.1 b.2 c.1 c.2 d.1 d.2 w (yu ha) (yu hb) (yu hc) (yu hd) h
theorem OG (a b c d:Pn) (w:World) (ha:bd2 a) (hb:bd2 b) (hc:bd2 c) (hd:bd2 d) (h:Q4 a b c d=2) :Calls Tryz.prog 107 #[pV a,pV b,pV c,pV d] w fun e w'=>e= .returned (pV (DF a b c d))∧Over w w':=by
 obtain ⟨h0,hD⟩ :=jaV h
 have n1:=TL hc hd ha
 have n2:=TL hc hd hb
 have eD:=XN a b c d
 have eN:=ZB a c d
 have e1:=SC a.1 b.1 (crN a c d) (Cd a b c d) hD
 have e2:=SC a.2 b.2 (crN a c d) (Cd a b c d) hD
 have f1:=ha;have f2:=hb
 obtain ⟨⟨a1,a2⟩,a3,a4⟩ :=f1
 obtain ⟨⟨b1,b2⟩,b3,b4⟩ :=f2
 have x1:=Qr (a:=b.1- a.1) (b:=tn c d a) (A:=524288) (B:=549755813888) Om Om Om Om
 have x2:=Qr (a:=b.2- a.2) (b:=tn c d a) (A:=524288) (B:=549755813888) Om Om Om Om
 have x3:=Qr (a:=b.1- a.1) (b:= -tn c d a) (A:=524288) (B:=549755813888) Om Om Om Om
 have x4:=Qr (a:=b.2- a.2) (b:= -tn c d a) (A:=524288) (B:=549755813888) Om Om Om Om
 rw [eD,eN] at e1 e2
 have hD':tn c d a- tn c d b≠0:=eD▸hD
 have eP:DF a b c d= (On a.1 b.1 (tn c d a) (tn c d a- tn c d b),On a.2 b.2 (tn c d a) (tn c d a- tn c d b)) :=by rw [DF,eD,eN]
 refine jT (m:=64) (Tryz.func107) J J (lb J) ?_;refine S3 ?_;refine aX (fun b1=> ?_);refine N1 ?_;refine aX (fun b2=> ?_);refine N1 ?_;refine aX (fun b3=> ?_);refine N1 ?_;refine aX (fun b4=> ?_);refine N1 ?_;refine aL (fun b5=> ?_);refine N8 ?_;refine JR Yg (v:=fun x=> .slice x.1 _ x.2) (r:=fun x=>JQ 0 28 2 _ _ x) (H:=fun _=>True) J J J (lb J) (fun w1 hs=>qJ (GK a b c d w1 ha hb hc hd)) ?_
 rintro⟨eA,ec⟩ -
 refine N9 ?_;refine cZ (fun c1=> ?_) (fun c1=> ?_)
 ·omega
 ·refine S7 ?_;refine a9 (jJ q7 J J (fun w h=>Wz _ _ _ w hc hd ha)) ?_;refine S8 ?_;refine a9 (jJ q7 J J (fun w h=>Wz _ _ _ w hc hd hb)) ?_;refine S9 ?_;refine cZ (fun c2=> ?_) (fun c2=> ?_)
  ·have r1:=Gl ((b.1- a.1) * -tn c d a) (-(tn c d a- tn c d b)) 288230376151711744 Om Om Om
   have r2:=Gl ((b.2- a.2) * -tn c d a) (-(tn c d a- tn c d b)) 288230376151711744 Om Om Om
   rw [if_pos c2] at e1 e2
   refine S3 ?_;refine a9 (za J J Om Om) ?_;refine S4 ?_;refine a9 (za J J Om Om) ?_;refine S4 ?_;refine QH 26 [4] ?_;refine dK 0 ?_;refine dK 1 ?_;refine dK 2 ?_;refine dK 3 ?_;refine dK 4 ?_;refine dK 5 ?_;refine dK 6 ?_;refine dK 7 ?_;refine dK 8 ?_;refine dK 9 ?_;refine dZ 10 J (jJ Vv J J (fun w h=>Calls.still (um _ _ w Om Om Om Om))) ?_;refine dK 11 ?_;refine dK 12 ?_;refine dK 13 ?_;refine dK 14 ?_;refine dK 15 ?_;refine dK 16 ?_;refine dK 17 ?_;refine dK 18 ?_;refine dK 19 ?_;refine dK 20 ?_;refine dK 21 ?_;refine dZ 22 J (jJ Vv J J (fun w h=>Calls.still (um _ _ w Om Om Om Om))) ?_;refine dK 23 ?_;refine dZ 24 J (J0 J J (QN J J)) ?_;refine J8 (i:=25) J Dc Kr J ?_;refine S1 ?_;refine JU (uw [4] J) ?_;refine JI Kr ?_;refine S2 ?_;refine jL J (qh (k:=4) J jj J J) ?_
   intro w' hs
   exact⟨by rw [eP,e1,e2],hs.fin⟩
  ·have r1:=Gl ((b.1- a.1) *tn c d a) (tn c d a- tn c d b) 288230376151711744 Om Om Om
   have r2:=Gl ((b.2- a.2) *tn c d a) (tn c d a- tn c d b) 288230376151711744 Om Om Om
   rw [if_neg (jhG.2 c2)] at e1 e2
   refine S4 ?_;refine QH 26 [4] ?_;refine dK 0 ?_;refine dK 1 ?_;refine dK 2 ?_;refine dK 3 ?_;refine dK 4 ?_;refine dK 5 ?_;refine dK 6 ?_;refine dK 7 ?_;refine dK 8 ?_;refine dK 9 ?_;refine dZ 10 J (jJ Vv J J (fun w h=>Calls.still (um _ _ w Om Om Om Om))) ?_;refine dK 11 ?_;refine dK 12 ?_;refine dK 13 ?_;refine dK 14 ?_;refine dK 15 ?_;refine dK 16 ?_;refine dK 17 ?_;refine dK 18 ?_;refine dK 19 ?_;refine dK 20 ?_;refine dK 21 ?_;refine dZ 22 J (jJ Vv J J (fun w h=>Calls.still (um _ _ w Om Om Om Om))) ?_;refine dK 23 ?_;refine dZ 24 J (J0 J J (QN J J)) ?_;refine J8 (i:=25) J Dc Kr J ?_;refine S1 ?_;refine JU (uw [4] J) ?_;refine JI Kr ?_;refine S2 ?_;refine jL J (qh (k:=4) J jj J J) ?_
   intro w' hs
   exact⟨by rw [eP,e1,e2],hs.fin⟩
section
variable {P:Program} {n:Nat} {env:List (Nat×Value)} {w0:Bs} {Rs:List Res} {ops:Array Oper} {Q:Exit→Act→World→Prop} {K:Act→World→Prop} {o:Oper}
theorem W2 {f d:Nat} (hfn:FnOk P f) {xs:List Operand} {X:Type} {v:X→Value} {r:Res} {r':X→Res} (ho:o.op= .call {callee:= .value (.func f),args:=xs.toArray,argTypes:=ts}) (hx:OB env xs=some vs) (hd:o.dst=some d) (hn:d<n) (hk:Rs[k]? =some r) (hc:∀w,St w0 Rs w→Calls P f vs.toArray w fun e w'=>∃x,e= .returned (v x)∧Wrs r.F w w'∧(r' x).P w'∧(∀b,(r' x).F b→r.F b∨w.heap.size≤b)∧(r' x).B=0) (h:∀x,At n ((d,v x) ::env) w0 (Rs.set k (r' x)) K) :At n env w0 Rs (fun a w=>o.wp P a w K Q) :=fun a w hF' hs=>by
 show o.upon P a K Q ((execOp a.eval o).run P w)
 rw [zg hfn ho hx hF']
 refine Calls.mono (hc w hs) ?_
 rintro e w' ⟨x,rfl,hw,hp,hF,hB⟩
 have hlow:= (hs.all k _ hk).2.1
 show K (a.put o.dst (v x)) w'
 rw [hd]
 refine h x _ _ (hF'.put hn _) (hs.upd hk ⟨hw.os.trans hs.over.os,hw.tape.trans hs.over.tape,hw.output.trans hs.over.output,jhi hs.over.size hw.size,fun c hc' hx'=> ?_⟩ hw.size (fun c hc' hne=>hw.block c hc' hne) hp (fun c hc'=>hF c hc') hB)
 rw [hw.block c (jgA hc' hs.over.size) (fun e=> (hlow c e).elim (fun h1=>by omega) (fun h1=>hx' h1))]
 exact hs.over.block c hc' hx'
theorem ED (k:Nat) {B T s m:Nat} {xs:List Value} (hk:Rs[k]? =some (.row B T s v m xs)) (h:At n env w0 (Rs.set k (.row 0 T s v m xs)) K) :At n env w0 Rs K:=fun a w hf hs=>
 h a w hf (hs.chg hk (fun hP=>Vy hP (jgw _)) (fun c hc=>hc) rfl)
end
theorem PZ {env:List (Nat×Value)} (h:∀w1,St w0 Rs w1→At n env ⟨w1,[]⟩ [] K) :At n env w0 Rs K:=fun a w hf hs=>h w hs a w hf (St.start w)
abbrev UE (xs:List Pn) (x:Nat×Nat) :Res:=JQ 0 28 2 xs.length (xs.flatMap Ju) (some ⟨x.1,0,none⟩,x.2)
theorem wv (p q:Pn) (w:World) :Calls Tryz.prog 156 #[pV p,pV q] w fun e w'=>e= .returned (.bool (decide (wc p q)))∧Over w w':=by
 refine jT (m:=24) (Tryz.func156) J J (lb J) ?_;refine S3 ?_;refine aX (fun b1=> ?_);refine N1 ?_;refine aX (fun b2=> ?_);refine N10 ?_;refine cV 10 (fun g1=> ?_) (fun g1=> ?_)
 ·refine S16 ?_;refine jL J (.tmp J) ?_
  intro w' hs
  exact⟨congrArg Ending.returned (congrArg Value.bool (jhc.2 (Iff.trans (b:=wc p q) (by simp [wc];omega) decide_eq_true_iff.symm))),hs.fin⟩
 ·refine S12 ?_;refine cV 16 (fun g2=> ?_) (fun g2=> ?_)
  ·refine S16 ?_;refine jL J (.tmp J) ?_
   intro w' hs
   exact⟨congrArg Ending.returned (congrArg Value.bool (jhc.2 (Iff.trans (b:=wc p q) (by simp [wc];omega) decide_eq_true_iff.symm))),hs.fin⟩
  ·refine S11 ?_;refine jL J (.tmp J) ?_
   intro w' hs
   exact⟨congrArg Ending.returned (congrArg Value.bool (jhc.2 (Iff.trans (b:=wc p q) (by simp [wc];omega) decide_eq_true_iff.symm))),hs.fin⟩
theorem CK (h:¬(0<k∧wc p (pt xs (k- 1)))) :VJ xs p k=k:=by
 cases k with
 | zero=>rfl
 | succ k=>
  rw [VJ,if_neg]
  intro h1
  exact h ⟨by omega,h1⟩
theorem CJ (h:0<k∧wc p (pt xs (k- 1))) :VJ xs p (k- 1) =VJ xs p k:=by
 cases k with
 | zero=>rfl
 | succ k=>
  show VJ xs p k=VJ xs p (k+1)
  rw [VJ,if_pos (show wc p (pt xs k) from h.2)]
theorem jgj {j:Nat} : ((px xs j==p.1) && (py xs j==p.2)) =decide (pt xs j=p) :=by
 rw [jhc]
 simp [pt,Prod.ext_iff]
theorem jbD (h:k=VJ xs p xs.length) (hk:0<k∧pt xs (k- 1) =p) :vn xs p=xs:=by
 subst h
 rw [vn,if_pos hk]
theorem jbC (h:k=VJ xs p xs.length) (hk:¬(0<k∧pt xs (k- 1) =p)) :vn xs p=xs.take k++p::xs.drop k:=by
 subst h
 rw [vn,if_neg hk]
theorem ZH (g c n:Nat) (xs:List Pn) (p:Pn) (w:World) (h:Pts w (some ⟨g,0,none⟩) n xs) (hc:n≤c) (hn:n≤1048576) :
  Calls Tryz.prog 104 #[.slice (some ⟨g,0,none⟩) n c,pV p] w fun e w'=> (e= .returned (.slice (some ⟨g,0,none⟩) n c)∧vn xs p=xs∧Over w w')∨∃v,e= .returned v∧w'.ownsRow w.heap.size 28 2 v (vn xs p).length ((vn xs p).flatMap Ju)∧Over w w':=by
 have hl:=h.1
 refine jT (m:=48) (Tryz.func104) J J (lb J) ?_;refine S3 ?_;refine aX (fun b1=> ?_);refine N10 ?_;refine J9 (X:=Nat) (fun k=>k≤n∧VJ xs p k=VJ xs p n) (fun k=>k) (fun k=> [(5, .int .i64 (k:Int))]) (kK [0,3,4]) n (⟨jgx _,J⟩) ⟨J,sz⟩ ?_
 intro k hk L hL1
 refine V1 ?_;refine qn [(19, .bool (decide (0<k∧wc p (pt xs (k- 1)))))] (kK [0,3,4,5]) (fun L h_2=> ?_) ?_
 ·refine S1 ?_;refine JS 11 ?_;refine dK 0 ?_;refine dK 1 ?_;refine dK 2 ?_;refine cV 11 (fun g1=> ?_) (fun g1=> ?_)
  ·refine eK 3 ?_;refine eK 4 ?_;refine eK 5 ?_;refine eZ 6 J ((JL J J J Om Om).as (congrArg _ (show((k:Int) - 1) = ((k- 1:Nat) :Int) by omega))) ?_;refine eK 7 ?_;refine eZ 8 J (jk J J jj J (wz h Om)) ?_;refine eZ 9 J (jJ kO J J (fun w _=>wv p (pt xs (k- 1)) w)) ?_;refine dK 10 ?_;refine JI Kr ?_;refine S1 ?_
   exact Jr h_2 ⟨vb (by simp;omega),sz⟩ (u9 J)
  ·refine fK 3 ?_;refine fK 4 ?_;refine fK 5 ?_;refine fK 6 ?_;refine fK 7 ?_;refine fK 8 ?_;refine fK 9 ?_;refine dK 10 ?_;refine JI Kr ?_;refine S1 ?_
   exact Jr h_2 ⟨vb (by simp;omega),sz⟩ (u9 J)
 ·refine v9 ?_;refine cZ (fun c1=> ?_) (fun c1=> ?_)
  ·refine S10 ?_
   exact JY hL1 (k- 1) (⟨by omega,(CJ c1).trans hk.2⟩) Om ⟨vi Om,sz⟩ (u9 J)
  ·have hpos:k=VJ xs p xs.length:=by rw [hl,←hk.2,CK c1]
   refine S6 ?_;refine qn [(32, .bool (decide (0<k∧pt xs (k- 1) =p)))] (kK [0,3,4,5]) (fun L h_4=> ?_) ?_
   ·refine S1 ?_;refine JS 11 ?_;refine dK 0 ?_;refine dK 1 ?_;refine dK 2 ?_;refine cV 24 (fun g2=> ?_) (fun g2=> ?_)
    ·refine eK 3 ?_;refine eK 4 ?_;refine eZ 5 J ((JL J J J Om Om).as (congrArg _ (show((k:Int) - 1) = ((k- 1:Nat) :Int) by omega))) ?_;refine eK 6 ?_;refine eZ 7 J (jk J J jj J (wz h Om)) ?_;refine eK 8 ?_;refine eK 9 ?_;refine dK 10 ?_;refine JI Kr ?_;refine S1 ?_
     exact Jr h_4 ⟨vb (by rw [jgj];simp;omega),sz⟩ (u9 J)
    ·refine fK 3 ?_;refine fK 4 ?_;refine fK 5 ?_;refine fK 6 ?_;refine fK 7 ?_;refine fK 8 ?_;refine fK 9 ?_;refine dK 10 ?_;refine JI Kr ?_;refine S1 ?_
     exact Jr h_4 ⟨vb (by rw [decide_eq_false (fun h=>absurd h.1 Om)]),sz⟩ (u9 J)
   ·refine v9 ?_;refine cZ (fun c2=> ?_) (fun c2=> ?_)
    ·refine S7 ?_;refine jL J (.tmp J) ?_
     intro w' hs
     exact .inl ⟨rfl,jbD hpos c2,hs.fin⟩
    ·have hput:=jbC hpos c2
     have hpl: (vn xs p).length=0+k+1+ (n- k) :=by rw [hput,jgv,jgD,jgJ,jgQ];omega
     refine S5 ?_;refine Jw J J (Kn) J (lb J) (fun b2=> ?_);refine vK 1 2 J J ?_;refine N2 ?_;refine a9 ((kS J J J jB Om).as (w6 _ _ _ _ _)) ?_;refine S1 ?_;refine JV (k:=1) J jB jH Dc J Dc J J J (fun w' hs=>FO (h.over hs.fin) Om) (Ve _) (by unfold maxLen;omega) Om (jgx _) (fun r1=> ?_);refine N7 ?_;refine Jw J J (qX J) J (lb J) (fun b3=> ?_);refine N1 ?_;refine JV (k:=1) J jB jH Dc J Dc J J J (fun w' hs=>qR hs (k:=2) J J) (by simp [Value.oneCell']) (by unfold maxLen;omega) Om (jgx _) (fun r2=> ?_);refine N7 ?_;refine a9 ((vG J J J jB Om).as (ut (b:=g) (o:=0) (l:=k) (h:=n) (m:=c) (s:=2) hc Om)) ?_;refine S1 ?_;refine JV (k:=1) J jB jH Dc J Dc J J J (fun w' hs=>jdV (h.over hs.fin) Om hc) (Ve _) (by unfold maxLen;omega) Om (jgx _) (fun r3=> ?_);refine N3 ?_;refine jL J (.tmp J) ?_
     intro w' hs
     have hr:= (hs.all 1 _ rfl).1
     exact .inr ⟨_,rfl,by rw [hpl,hput,jgG,jgU,←jgB];exact hr,hs.fin⟩
theorem jdG (h: (UE xs (g,c)).P w) (hn:xs.length≤1048576) :
  Calls Tryz.prog 104 #[.slice (some ⟨g,0,none⟩) xs.length c,pV p] w fun e w'=>∃x:Nat×Nat,e= .returned (.slice (some ⟨x.1,0,none⟩) (vn xs p).length x.2)∧Wrs (UE xs (g,c)).F w w'∧(UE (vn xs p) x).P w'∧(∀b,(UE (vn xs p) x).F b→(UE xs (g,c)).F b∨w.heap.size≤b)∧(UE (vn xs p) x).B=0:=by
 refine(ZH g c xs.length xs p w (WI h J) (W8 h) hn).mono ?_
 rintro e w' (⟨rfl,hp,hO⟩ |⟨v,rfl,hr,hO⟩)
 ·refine⟨(g,c),by rw [hp],Wrs.of hO,?_,fun b hb=> .inl (by rw [hp] at hb;exact hb),J⟩
  rw [hp]
  exact(UE xs (g,c)).dep w w' h hO.size fun b hb _=>hO.out.block b hb
 ·obtain ⟨x,rfl⟩ :=WL hr
  have h0:0< (vn xs p).length:=List.length_pos_of_mem (Xe.2 (.inr rfl))
  have hs:∃g2,x.1=some ⟨g2,0,none⟩ :=by
   rcases hr.2 with⟨_,e⟩ |⟨g2,cap,cur,e,_⟩
   ·omega
   ·injection e with e1
    exact⟨g2,e1⟩
  obtain ⟨g2,hg2⟩ :=hs
  obtain ⟨xA,xc⟩ :=x
  simp only at hg2
  subst hg2
  exact⟨(g2,xc),rfl,Wrs.of hO,Vy hr (jgw _),fun b hb=> .inr (hr.lt b hb).1,rfl⟩
def uJ (w1:World) (g:Nat) (xs:List Pn) (x:Nat×Nat) :Res:=if x.1<w1.heap.size then {F:=fun _=>False,P:=fun _=>x.1=g∧(UE xs x).P w1,low:=fun _ _ _ h=>h.elim,B:=0,dep:=fun _ _ h _ _=>h} else UE xs x
theorem DS (w1:World) (g:Nat) (xs:List Pn) (x:Nat×Nat) : (uJ w1 g xs x).B=0:=by unfold uJ;split<;>rfl
theorem jao (h: (uJ w1 g xs x).P w') (hO:Over w1 w') : (UE xs x).P w'∧(x.1=g∨w1.heap.size≤x.1) :=by
 unfold uJ at h
 split at h
 ·exact⟨(UE xs x).dep w1 w' h.2 hO.size fun b hb _=>hO.out.block b hb, .inl h.1⟩
 ·rename_i hn
  exact⟨h, .inr Om⟩
theorem jeT {b:Nat} (h: (UE xs x).F b) :b=x.1:=by
 have h:some x.1=some b:=h
 injection h with h
 exact h.symm
theorem Ra (h: (UE xs x).P w') (hx:w1.heap.size≤x.1) : (uJ w1 g xs x).P w':=by
 unfold uJ
 rw [if_neg Om]
 exact h
theorem jdF (h: (UE xs (g,c)).P w1) (hO:Over w1 w') (hn:xs.length≤1048576) :
  Calls Tryz.prog 104 #[.slice (some ⟨g,0,none⟩) xs.length c,pV p] w' fun e w''=>∃x:Nat×Nat,e= .returned (.slice (some ⟨x.1,0,none⟩) (vn xs p).length x.2)∧Over w' w''∧(uJ w1 g (vn xs p) x).P w''∧(∀b,(uJ w1 g (vn xs p) x).F b→w'.heap.size≤b)∧(uJ w1 g (vn xs p) x).B=0∧True:=by
 have hg:g<w1.heap.size:= (UE xs (g,c)).low w1 h g rfl
 have h':= (UE xs (g,c)).dep w1 w' h hO.size fun b hb _=>hO.out.block b hb
 refine(ZH g c xs.length xs p w' (WI h' J) (W8 h') hn).mono ?_
 rintro e w'' (⟨rfl,hp,hO'⟩ |⟨v,rfl,hr,hO'⟩)
 ·refine⟨(g,c),by rw [hp],hO',?_,fun b hb=> ?_,DS _ _ _ _,trivial⟩
  ·rw [hp]
   unfold uJ
   rw [if_pos hg]
   exact⟨rfl,h⟩
  ·unfold uJ at hb
   rw [if_pos hg] at hb
   exact hb.elim
 ·obtain ⟨x,rfl⟩ :=WL hr
  have h0:0< (vn xs p).length:=List.length_pos_of_mem (Xe.2 (.inr rfl))
  obtain ⟨g2,hg2⟩ :∃g2,x.1=some ⟨g2,0,none⟩ :=by
   rcases hr.2 with⟨_,e⟩ |⟨g2,cap,cur,e,_⟩
   ·omega
   ·injection e with e1
    exact⟨g2,e1⟩
  obtain ⟨xA,xc⟩ :=x
  simp only at hg2
  subst hg2
  have hlt:=hr.lt g2 rfl
  refine⟨(g2,xc),J,hO',Ra (Vy hr (jgw _)) (jhi hO.size hlt.1),fun b hb=> ?_,DS _ _ _ _,trivial⟩
  unfold uJ at hb
  split at hb
  ·exact hb.elim
  ·rw [jeT hb];exact hlt.1
theorem CM {g1:Nat} (h: (uJ w1 g xs (g1,c)).P w') (hO:Over w1 w') (hn:xs.length≤1048576) :
  Calls Tryz.prog 104 #[.slice (some ⟨g1,0,none⟩) xs.length c,pV p] w' fun e w''=>∃x:Nat×Nat,e= .returned (.slice (some ⟨x.1,0,none⟩) (vn xs p).length x.2)∧Wrs (uJ w1 g xs (g1,c)).F w' w''∧(uJ w1 g (vn xs p) x).P w''∧(∀b,(uJ w1 g (vn xs p) x).F b→(uJ w1 g xs (g1,c)).F b∨w'.heap.size≤b)∧(uJ w1 g (vn xs p) x).B=0:=by
 have h':= (jao h hO).1
 refine(ZH g1 c xs.length xs p w' (WI h' J) (W8 h') hn).mono ?_
 rintro e w'' (⟨rfl,hp,hO'⟩ |⟨v,rfl,hr,hO'⟩)
 ·refine⟨(g1,c),by rw [hp],Wrs.of hO',?_,fun b hb=> .inl (by rw [hp] at hb;exact hb),DS _ _ _ _⟩
  rw [hp]
  exact(uJ w1 g xs (g1,c)).dep w' w'' h hO'.size fun b hb _=>hO'.out.block b hb
 ·obtain ⟨x,rfl⟩ :=WL hr
  have h0:0< (vn xs p).length:=List.length_pos_of_mem (Xe.2 (.inr rfl))
  obtain ⟨g2,hg2⟩ :∃g2,x.1=some ⟨g2,0,none⟩ :=by
   rcases hr.2 with⟨_,e⟩ |⟨g2,cap,cur,e,_⟩
   ·omega
   ·injection e with e1
    exact⟨g2,e1⟩
  obtain ⟨xA,xc⟩ :=x
  simp only at hg2
  subst hg2
  have hlt:=hr.lt g2 rfl
  refine⟨(g2,xc),J,Wrs.of hO',Ra (Vy hr (jgw _)) (jhi hO.size hlt.1),fun b hb=> .inr ?_,DS _ _ _ _⟩
  unfold uJ at hb
  split at hb
  ·exact hb.elim
  ·rw [jeT hb];exact hlt.1
theorem jcx {env:List (Nat×Value)} {Rs2:List Res} (hs1:St w0 Rs w1) (k j:Nat) {xs2:List Pn} {x2:Nat×Nat} (hk:Rs[k]? =some (UE xs (g,c))) (hj:Rs2[j]? =some (uJ w1 g xs2 x2)) (h:At n env w0 (Rs.set k (UE xs2 x2)) K) :At n env ⟨w1,[]⟩ Rs2 K:=fun a w' hf hs=>by
 have hO:Over w1 w':=hs.fin
 obtain ⟨hP,hx⟩ :=jao (hs.all j _ hj).1 hO
 refine h a w' hf (hs1.upd hk ⟨hO.out.os.trans hs1.over.os,hO.out.tape.trans hs1.over.tape,hO.out.output.trans hs1.over.output,jhi hs1.over.size hO.size,fun c hc' hx'=> ?_⟩ hO.size (fun b hb _=>hO.out.block b hb) hP (fun b hb=> ?_) J)
 ·exact(hO.out.block c (jgA hc' hs1.over.size)).trans (hs1.over.block c hc' hx')
 ·have e:=jeT hb
  rcases hx with h1 | h1
  ·left;show some g=some b;rw [e,h1]
  ·right;omega
def cz (ls:List Leg) (i:Nat) :Nat→List Pn
 | 0=> []
 | k+1=>cz ls i k++ (if Q4 (lA (lg ls i)) (lB (lg ls i)) (lA (lg ls k)) (lB (lg ls k)) =2 then [DF (lA (lg ls i)) (lB (lg ls i)) (lA (lg ls k)) (lB (lg ls k))] else [])
def Yr (ls:List Leg) :Nat→List Pn
 | 0=> []
 | i+1=>Yr ls i++ [lA (lg ls i),lB (lg ls i)] ++cz ls i i
theorem SE (ls:List Leg) (i:Nat) :∀k,(cz ls i k).length≤k
 | 0=>jgx _
 | k+1=>by
  have:=SE ls i k
  unfold cz
  rw [jgv]
  split<;>simp<;>omega
theorem zD (ls:List Leg) :∀i,(Yr ls i).length≤i* (i+2)
 | 0=>jgx _
 | i+1=>by
  have h1:=zD ls i
  have h2:=SE ls i i
  unfold Yr
  rw [jgv,jgv]
  simp only [jgD,jgY]
  have e: (i+1) * (i+1+2) =i* (i+2) +2*i+3:=by simp only [Nat.add_mul,Nat.mul_add];omega
  omega
def W7 (ls:List Leg) (i k:Nat) :List Pn:=Yr ls i++ [lA (lg ls i),lB (lg ls i)] ++cz ls i k
theorem Pe (hi:i<400) (hk:k≤i) : (W7 ls i k).length≤170000:=by
 have h1:=zD ls i
 have h2:=SE ls i k
 have h3:i* (i+2)≤400*402:=Nat.mul_le_mul Om Om
 unfold W7
 rw [jgv,jgv]
 simp only [jgD,jgY]
 omega
theorem RY (xs:List Pn) (p:Pn) : (vn xs p).length≤xs.length+1:=by
 have:=Le xs p xs.length
 unfold vn
 split
 ·omega
 ·rw [jgv,jgD,jgJ,jgQ];omega
theorem Ch (l:List Pn) :∀xs,(l.foldl vn xs).length≤xs.length+l.length:=by
 induction l with
 | nil=>intro xs;exact jgx _
 | cons p l ih=>
  intro xs
  have h1:=ih (vn xs p)
  have h2:=RY xs p
  rw [jhs,jgD]
  omega
theorem ZX (l:List Pn) : (kf l).length≤l.length:=by have:=Ch l [];simpa [kf] using this
theorem Tr (l:List Pn) (p:Pn) :kf (l++ [p]) =vn (kf l) p:=by simp [kf,jh8]
theorem RX (ls:List Leg) (i:Nat) :kf (W7 ls i 0) =vn (vn (kf (Yr ls i)) (lA (lg ls i))) (lB (lg ls i)) :=by
 simp [W7,cz,kf,jh8]
theorem MG (h:Q4 (lA (lg ls i)) (lB (lg ls i)) (lA (lg ls k)) (lB (lg ls k)) =2) :kf (W7 ls i (k+1)) =vn (kf (W7 ls i k)) (DF (lA (lg ls i)) (lB (lg ls i)) (lA (lg ls k)) (lB (lg ls k))) :=by
 rw [←Tr,W7,cz,if_pos h,←jgB]
 rfl
theorem B3 (h:¬Q4 (lA (lg ls i)) (lB (lg ls i)) (lA (lg ls k)) (lB (lg ls k)) =2) :kf (W7 ls i (k+1)) =kf (W7 ls i k) :=by
 rw [W7,cz,if_neg h,jgW]
 rfl
theorem jei {b o:Nat} (h:Legs w (some ⟨b,o,none⟩) n ls) (hn:0<n) :b<w.heap.size:=by
 obtain ⟨b',o',e,hb,_⟩ :=h.2 hn
 injection e with e
 injection e with e1 e2
 subst e1
 exact hb
theorem KN {B N T s:Nat} {xs:List Value} (h:w.ownsRow B T s v n xs) (hN:∀b,v.ownBlock=some b→N≤b) :w.ownsRow N T s v n xs:=by
 refine⟨h.1,?_⟩
 rcases h.2 with e |⟨g,cap,cur,rfl,hb,rest⟩
 ·exact .inl e
 ·exact .inr ⟨g,cap,cur,rfl,hN g rfl,rest⟩
theorem S0 (A:Option Addr) (n c:Nat) (ls:List Leg) (w:World) (h:Legs w A n ls) (hok:∀l∈ls,qr l) (hn:n≤400) :
  Calls Tryz.prog 51 #[.slice A n c] w fun e w'=>∃v,e= .returned v∧w'.ownsRow w.heap.size 28 2 v (kf (Yr ls n)).length ((kf (Yr ls n)).flatMap Ju)∧Over w w':=by
 have hl:=h.1
 refine jT (m:=81) (Tryz.func51) J J (lb J) ?_;refine S7 ?_;refine Jw J J (Kn) J (lb J) (fun b1=> ?_);refine vK 0 2 J J ?_;refine N2 ?_;refine ED 0 J ?_;refine t9 ?_;refine S6 ?_;refine JN (X:=Nat×Nat×Nat) (fun x=>x.1≤n) (fun x=>n- x.1) (fun x=> [(3, .slice (some ⟨x.2.1,0,none⟩) (kf (Yr ls x.1)).length x.2.2),(4, .int .i64 (x.1:Int))]) (kK [0,2]) (fun x=> [UE (kf (Yr ls x.1)) x.2]) (0,b1,0) (jgw _) ⟨J,sz⟩ (fun _ h=>h) ?_
 intro⟨i,g,gc⟩ hi L hL1
 refine v9 ?_;refine r9 ?_
 have hi:i≤n:=hi
 refine S8 ?_;refine cZ (fun c1=> ?_) (fun c1=> ?_)
 ·have hlt:i<n:=Om
  obtain ⟨eb,eo,rfl,_⟩ :=h.2 Om
  have hhl:=zD ls i
  have hh2:i* (i+2)≤400*402:=Nat.mul_le_mul Om Om
  have hpa:=ZX (Yr ls i)
  have hpb:=RY (kf (Yr ls i)) (lA (lg ls i))
  refine S12 ?_
  refine PZ fun w1 hs1=> ?_
  have h1:=h.over hs1.fin
  have hp1:= (hs1.all 0 _ rfl).1
  refine S1 ?_;refine JS 10 ?_;refine dV 0 [5] ?_;refine dV 1 [2,3,4,5] ?_;refine dV 2 [3,4,5] ?_;refine dV 3 [4,5] ?_;refine d9 4 rfl [5] (u9 rfl) (jk rfl rfl jj rfl (by first | exact qZ (b:=eb) (o:=eo) (j:=i) (fun w' hs=>h.over hs.fin) hlt | exact qO (b:=eb) (o:=eo) (j:=i) (fun w' hs=>h.over hs.fin) hlt | exact qZ (b:=eb) (o:=eo) (j:=k) (fun w' hs=>h.over hs.fin) hkl | exact qO (b:=eb) (o:=eo) (j:=k) (fun w' hs=>h.over hs.fin) hkl | exact qZ (b:=eb) (o:=eo) (j:=i) (fun w' hs=>h1.over hs.fin) hlt | exact qO (b:=eb) (o:=eo) (j:=i) (fun w' hs=>h1.over hs.fin) hlt)) ?_;refine dV 6 [7,8,9] ?_;refine dV 7 [8,9] ?_;refine dV 8 [9] ?_;refine dZ 9 rfl (jk rfl rfl jj rfl (by first | exact qZ (b:=eb) (o:=eo) (j:=i) (fun w' hs=>h.over hs.fin) hlt | exact qO (b:=eb) (o:=eo) (j:=i) (fun w' hs=>h.over hs.fin) hlt | exact qZ (b:=eb) (o:=eo) (j:=k) (fun w' hs=>h.over hs.fin) hkl | exact qO (b:=eb) (o:=eo) (j:=k) (fun w' hs=>h.over hs.fin) hkl | exact qZ (b:=eb) (o:=eo) (j:=i) (fun w' hs=>h1.over hs.fin) hlt | exact qO (b:=eb) (o:=eo) (j:=i) (fun w' hs=>h1.over hs.fin) hlt)) ?_;refine J8 (i:=5) J Dc Kr J ?_;refine JR uU (v:=fun x:Nat×Nat=> .slice (some ⟨x.1,0,none⟩) _ x.2) (r:=fun x=>uJ w1 _ _ x) (H:=fun _=>True) J J J (lb J) (fun w2 hs=>jdF (p:=lA (lg ls i)) hp1 hs.fin Om) ?_
  rintro⟨g1,gc1⟩ -
  refine n9 ?_;refine WP (u9 J) ?_;refine KB J Kr J ?_;refine W2 (k:=0) (v:=fun x:Nat×Nat=> .slice (some ⟨x.1,0,none⟩) _ x.2) (r':=fun x=>uJ w1 _ _ x) uU J J J Dc J (fun w2 hs=>CM (p:=lB (lg ls i)) (hs.all 0 _ J).1 hs.fin Om) ?_
  rintro⟨g2,gc2⟩
  refine n9 ?_;refine JS 12 ?_;refine dK 11 ?_;refine JI Kr ?_;refine jcx hs1 0 0 J J ?_;refine t9 ?_
  rw [←RX]
  refine S6 ?_;refine JN (X:=Nat×Nat×Nat) (fun x=>x.1≤i) (fun x=>i- x.1) (fun x=> [(3, .slice (some ⟨x.2.1,0,none⟩) (kf (W7 ls i x.1)).length x.2.2),(6, .int .i64 (x.1:Int))]) (kK [0,2,4,9,10,11,12,15,16,17,5,18,19,20,21,22,24,25,26,27,23,28]) (fun x=> [UE (kf (W7 ls i x.1)) x.2]) (0,g2,gc2) (jgw _) ⟨J,sz⟩ (fun _ h=>h) ?_
  intro⟨k,g,gc⟩ hk L hL2
  refine v9 ?_;refine r9 ?_
  have hk:k≤i:=hk
  refine S7 ?_;refine cZ (fun c2=> ?_) (fun c2=> ?_)
  ·have hkt:k<i:=Om
   have hkl:k<n:=Om
   have hpl:=Pe (ls:=ls) (k:=k) (show i<400 by omega) hk
   have hpa:=ZX (W7 ls i k)
   refine S11 ?_;refine qn [(60, .bool (decide (Q4 (lA (lg ls i)) (lB (lg ls i)) (lA (lg ls k)) (lB (lg ls k)) =2)))] (kK [0,2,4,9,10,11,12,15,16,17,5,18,19,20,21,22,24,25,26,27,23,28,3,6,29,30,31,34,35,36,7]) (fun L h_11=> ?_) ?_
   ·refine S1 ?_;refine JS 24 ?_;refine dK 0 ?_;refine dK 1 ?_;refine dZ 2 J (jJ X5 J J (fun w1 hs=>DZ eb _ eb _ (lg ls i) (lg ls k) w1 (uV (fun w' hs=>h.over hs.fin) hlt w1 hs) (uV (fun w' hs=>h.over hs.fin) hkl w1 hs) (jei (h.over hs.fin) Om) (jei (h.over hs.fin) Om))) ?_;refine dK 3 ?_;refine dK 4 ?_;refine cV 41 (fun g1=> ?_) (fun g1=> ?_)
    ·refine eK 5 ?_;refine eK 6 ?_;refine eK 7 ?_;refine eZ 8 rfl (jk rfl rfl jj rfl (by first | exact qZ (b:=eb) (o:=eo) (j:=i) (fun w' hs=>h.over hs.fin) hlt | exact qO (b:=eb) (o:=eo) (j:=i) (fun w' hs=>h.over hs.fin) hlt | exact qZ (b:=eb) (o:=eo) (j:=k) (fun w' hs=>h.over hs.fin) hkl | exact qO (b:=eb) (o:=eo) (j:=k) (fun w' hs=>h.over hs.fin) hkl | exact qZ (b:=eb) (o:=eo) (j:=i) (fun w' hs=>h1.over hs.fin) hlt | exact qO (b:=eb) (o:=eo) (j:=i) (fun w' hs=>h1.over hs.fin) hlt)) ?_;refine eK 9 ?_;refine eK 10 ?_;refine eK 11 ?_;refine eZ 12 rfl (jk rfl rfl jj rfl (by first | exact qZ (b:=eb) (o:=eo) (j:=i) (fun w' hs=>h.over hs.fin) hlt | exact qO (b:=eb) (o:=eo) (j:=i) (fun w' hs=>h.over hs.fin) hlt | exact qZ (b:=eb) (o:=eo) (j:=k) (fun w' hs=>h.over hs.fin) hkl | exact qO (b:=eb) (o:=eo) (j:=k) (fun w' hs=>h.over hs.fin) hkl | exact qZ (b:=eb) (o:=eo) (j:=i) (fun w' hs=>h1.over hs.fin) hlt | exact qO (b:=eb) (o:=eo) (j:=i) (fun w' hs=>h1.over hs.fin) hlt)) ?_;refine eK 13 ?_;refine eK 14 ?_;refine eK 15 ?_;refine eZ 16 rfl (jk rfl rfl jj rfl (by first | exact qZ (b:=eb) (o:=eo) (j:=i) (fun w' hs=>h.over hs.fin) hlt | exact qO (b:=eb) (o:=eo) (j:=i) (fun w' hs=>h.over hs.fin) hlt | exact qZ (b:=eb) (o:=eo) (j:=k) (fun w' hs=>h.over hs.fin) hkl | exact qO (b:=eb) (o:=eo) (j:=k) (fun w' hs=>h.over hs.fin) hkl | exact qZ (b:=eb) (o:=eo) (j:=i) (fun w' hs=>h1.over hs.fin) hlt | exact qO (b:=eb) (o:=eo) (j:=i) (fun w' hs=>h1.over hs.fin) hlt)) ?_;refine eK 17 ?_;refine eK 18 ?_;refine eK 19 ?_;refine eZ 20 rfl (jk rfl rfl jj rfl (by first | exact qZ (b:=eb) (o:=eo) (j:=i) (fun w' hs=>h.over hs.fin) hlt | exact qO (b:=eb) (o:=eo) (j:=i) (fun w' hs=>h.over hs.fin) hlt | exact qZ (b:=eb) (o:=eo) (j:=k) (fun w' hs=>h.over hs.fin) hkl | exact qO (b:=eb) (o:=eo) (j:=k) (fun w' hs=>h.over hs.fin) hkl | exact qZ (b:=eb) (o:=eo) (j:=i) (fun w' hs=>h1.over hs.fin) hlt | exact qO (b:=eb) (o:=eo) (j:=i) (fun w' hs=>h1.over hs.fin) hlt)) ?_;refine eZ 21 J (jJ ZM J J (fun w1 hs=>L4 (lA (lg ls i)) (lB (lg ls i)) (lA (lg ls k)) (lB (lg ls k)) w1 (VR (QK hok Om)) (wM (QK hok Om)) (VR (QK hok Om)) (wM (QK hok Om)))) ?_;refine eK 22 ?_;refine dK 23 ?_;refine JI Kr ?_;refine S1 ?_
     exact Jr h_11 ⟨vb (by rw [jhc];simp),sz⟩ (u9 J)
    ·refine fK 5 ?_;refine fK 6 ?_;refine fK 7 ?_;refine fK 8 ?_;refine fK 9 ?_;refine fK 10 ?_;refine fK 11 ?_;refine fK 12 ?_;refine fK 13 ?_;refine fK 14 ?_;refine fK 15 ?_;refine fK 16 ?_;refine fK 17 ?_;refine fK 18 ?_;refine fK 19 ?_;refine fK 20 ?_;refine fK 21 ?_;refine fK 22 ?_;refine dK 23 ?_;refine JI Kr ?_;refine S1 ?_
     exact Jr h_11 ⟨vb (by rw [Su g1];rfl),sz⟩ (u9 J)
   ·refine v9 ?_;refine cZ (fun c3=> ?_) (fun c3=> ?_)
    ·refine S1 ?_;refine JS 18 ?_;refine dK 0 ?_;refine dV 1 [2,3,4,17] ?_;refine dV 2 [3,4,17] ?_;refine dV 3 [4,17] ?_;refine d9 4 rfl [17] (u9 rfl) (jk rfl rfl jj rfl (by first | exact qZ (b:=eb) (o:=eo) (j:=i) (fun w' hs=>h.over hs.fin) hlt | exact qO (b:=eb) (o:=eo) (j:=i) (fun w' hs=>h.over hs.fin) hlt | exact qZ (b:=eb) (o:=eo) (j:=k) (fun w' hs=>h.over hs.fin) hkl | exact qO (b:=eb) (o:=eo) (j:=k) (fun w' hs=>h.over hs.fin) hkl | exact qZ (b:=eb) (o:=eo) (j:=i) (fun w' hs=>h1.over hs.fin) hlt | exact qO (b:=eb) (o:=eo) (j:=i) (fun w' hs=>h1.over hs.fin) hlt)) ?_;refine dV 5 [6,7,8,17] ?_;refine dV 6 [7,8,17] ?_;refine dV 7 [8,17] ?_;refine d9 8 rfl [17] (u9 rfl) (jk rfl rfl jj rfl (by first | exact qZ (b:=eb) (o:=eo) (j:=i) (fun w' hs=>h.over hs.fin) hlt | exact qO (b:=eb) (o:=eo) (j:=i) (fun w' hs=>h.over hs.fin) hlt | exact qZ (b:=eb) (o:=eo) (j:=k) (fun w' hs=>h.over hs.fin) hkl | exact qO (b:=eb) (o:=eo) (j:=k) (fun w' hs=>h.over hs.fin) hkl | exact qZ (b:=eb) (o:=eo) (j:=i) (fun w' hs=>h1.over hs.fin) hlt | exact qO (b:=eb) (o:=eo) (j:=i) (fun w' hs=>h1.over hs.fin) hlt)) ?_;refine dV 9 [10,11,12,17] ?_;refine dV 10 [11,12,17] ?_;refine dV 11 [12,17] ?_;refine d9 12 rfl [17] (u9 rfl) (jk rfl rfl jj rfl (by first | exact qZ (b:=eb) (o:=eo) (j:=i) (fun w' hs=>h.over hs.fin) hlt | exact qO (b:=eb) (o:=eo) (j:=i) (fun w' hs=>h.over hs.fin) hlt | exact qZ (b:=eb) (o:=eo) (j:=k) (fun w' hs=>h.over hs.fin) hkl | exact qO (b:=eb) (o:=eo) (j:=k) (fun w' hs=>h.over hs.fin) hkl | exact qZ (b:=eb) (o:=eo) (j:=i) (fun w' hs=>h1.over hs.fin) hlt | exact qO (b:=eb) (o:=eo) (j:=i) (fun w' hs=>h1.over hs.fin) hlt)) ?_;refine dV 13 [14,15,16,17] ?_;refine dV 14 [15,16,17] ?_;refine dV 15 [16,17] ?_;refine d9 16 rfl [17] (u9 rfl) (jk rfl rfl jj rfl (by first | exact qZ (b:=eb) (o:=eo) (j:=i) (fun w' hs=>h.over hs.fin) hlt | exact qO (b:=eb) (o:=eo) (j:=i) (fun w' hs=>h.over hs.fin) hlt | exact qZ (b:=eb) (o:=eo) (j:=k) (fun w' hs=>h.over hs.fin) hkl | exact qO (b:=eb) (o:=eo) (j:=k) (fun w' hs=>h.over hs.fin) hkl | exact qZ (b:=eb) (o:=eo) (j:=i) (fun w' hs=>h1.over hs.fin) hlt | exact qO (b:=eb) (o:=eo) (j:=i) (fun w' hs=>h1.over hs.fin) hlt)) ?_;refine dZ 17 J (jJ zX J J (fun w1 hs=>OG (lA (lg ls i)) (lB (lg ls i)) (lA (lg ls k)) (lB (lg ls k)) w1 (VR (QK hok Om)) (wM (QK hok Om)) (VR (QK hok Om)) (wM (QK hok Om)) c3)) ?_;refine KB J Kr J ?_;refine W2 (k:=0) (v:=fun x:Nat×Nat=> .slice (some ⟨x.1,0,none⟩) _ x.2) (r':=fun x=>UE _ x) uU J J J Dc J (fun w1 hs=>jdG (p:=DF (lA (lg ls i)) (lB (lg ls i)) (lA (lg ls k)) (lB (lg ls k))) (hs.all 0 _ J).1 Om) ?_
     rintro⟨g3,gc3⟩
     refine n9 ?_;refine JS 20 ?_;refine dK 19 ?_;refine JI Kr ?_;refine S7 ?_
     exact j4 hL2 ((k+1,g3,gc3)) ((show k+1≤i by omega)) (by simp only;omega) ⟨(by rw [MG c3];rfl),vi Om,sz⟩ (fun _ h=>h.upto ⟨by rw [MG c3],trivial⟩)
    ·refine S8 ?_
     exact j4 hL2 ((k+1,g,gc)) ((show k+1≤i by omega)) (by simp only;omega) ⟨(by rw [B3 c3];rfl),vi Om,sz⟩ (fun _ h=>h.upto ⟨by rw [B3 c3],trivial⟩)
  ·refine S11 ?_
   exact j4 hL1 ((i+1,g,gc)) ((show i+1≤n by omega)) (by simp only;omega) ⟨(by rw [show k=i by omega];rfl),vi Om,sz⟩ (fun _ h=>h.upto ⟨by rw [show k=i by omega];rfl,trivial⟩)
 ·refine S11 ?_;refine jL J (.tmp J) ?_
  intro w' hs
  have hr:=hs.all 0 _ rfl
  have hin:i=n:=by omega
  exact⟨_,rfl,by rw [←hin];exact KN hr.1 (fun b hb=> (hr.2.1 b hb).elim id (fun h=>by cases h)),hs.fin⟩
end Go.Proofs.YtbahojdbmmjkcaaGreat
