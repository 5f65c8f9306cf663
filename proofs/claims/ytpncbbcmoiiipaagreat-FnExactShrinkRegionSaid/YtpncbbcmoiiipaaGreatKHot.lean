import Derived.Test.YtpncbbcmoiiipaaGreatKSnapped
import Derived.Test.YtpncbbcmoiiipaaGreatKSimp
set_option linter.unusedVariables false
set_option linter.unusedSimpArgs false
namespace Go.Proofs.YtpncbbcmoiiipaaGreat
open Go Go.RowKit
set_option maxRecDepth 100000
set_option maxHeartbeats 4000000
def vh (p q:Pn) :Prop:=p.2<q.2∨(p.2=q.2∧p.1<q.1)
instance (p q:Pn) :Decidable (vh p q) :=by unfold vh;exact inferInstance
theorem Vx {p q r:Pn} (h:vh p q) (h':vh q r) :vh p r:=by unfold vh at*;omega
theorem kC (p:Pn) :¬vh p p:=by unfold vh;omega
theorem U4 (p q:Pn) :vh p q∨p=q∨vh q p:=by
 rcases p with⟨x,y⟩
 rcases q with⟨x',y'⟩
 simp only [vh,Prod.mk.injEq]
 omega
def Asc (l:List Pn) :Prop:=l.Pairwise vh
theorem Asc.head {p:Pn} {l:List Pn} (h:Asc (p::l)) :∀q∈l,vh p q:= (jiR.1 h).1
theorem Asc.tail {p:Pn} {l:List Pn} (h:Asc (p::l)) :Asc l:= (jiR.1 h).2
theorem Fv:∀ {l m:List Pn},Asc l→Asc m→(∀p,p∈l↔p∈m)→l=m
 | [],[],_,_,_=>rfl
 | [],q::m,_,_,h=>absurd ((h q).2 (by simp)) (by simp)
 | p::l,[],_,_,h=>absurd ((h p).1 (by simp)) (by simp)
 | p::l,q::m,hl,hm,h=>by
  have e:p=q:=by
   rcases jir.1 ((h p).1 (by simp)) with e | h1
   ·exact e
   ·rcases jir.1 ((h q).2 (by simp)) with e | h2
    ·exact e.symm
    ·exact absurd (Vx (hl.head q h2) (hm.head p h1)) (kC p)
  subst e
  congr 1
  refine Fv hl.tail hm.tail fun r=> ?_
  constructor
  ·intro hr
   rcases jir.1 ((h r).1 (jiq _ hr)) with e | h1
   ·exact absurd (e▸hl.head r hr) (kC _)
   ·exact h1
  ·intro hr
   rcases jir.1 ((h r).2 (jiq _ hr)) with e | h1
   ·exact absurd (e▸hm.head r hr) (kC _)
   ·exact h1
def wz (xs:List Pn) (p:Pn) :Nat→Nat
 | 0=>0
 | k+1=>if vh p (pt xs k) then wz xs p k else k+1
theorem Mm (xs:List Pn) (p:Pn) :∀k,wz xs p k≤k
 | 0=>jih _
 | k+1=>by
  unfold wz
  split
  ·have:=Mm xs p k;omega
  ·exact jih _
theorem Co (xs:List Pn) (p:Pn) :∀k j,wz xs p k≤j→j<k→vh p (pt xs j)
 | 0,j,_,h=>absurd h Om
 | k+1,j,h,h'=>by
  unfold wz at h
  split at h
  ·rename_i hp
   by_cases e:j=k
   ·rw [e];exact hp
   ·exact Co xs p k j h Om
  ·omega
theorem Cn (xs:List Pn) (p:Pn) :∀k,0<wz xs p k→¬vh p (pt xs (wz xs p k- 1))
 | 0,h=>absurd h (by simp [wz])
 | k+1,h=>by
  unfold wz at h⊢
  split at h
  ·rename_i hp
   rw [if_pos hp]
   exact Cn xs p k h
  ·rename_i hp
   rw [if_neg hp]
   exact hp
def Vg (xs:List Pn) (p:Pn) :List Pn:=if 0<wz xs p xs.length∧pt xs (wz xs p xs.length- 1) =p then xs else xs.take (wz xs p xs.length) ++p::xs.drop (wz xs p xs.length)
theorem Kk {xs:List Pn} {k:Nat} (h:k<xs.length) :xs[k] =pt xs k:=yg h
theorem X0 {xs:List Pn} {p q:Pn} :q∈Vg xs p↔q∈xs∨q=p:=by
 unfold Vg
 split
 ·rename_i h
  have hle:=Mm xs p xs.length
  constructor
  ·exact .inl
  ·rintro(h1 | rfl)
   ·exact h1
   ·rw [←h.2,←Kk Om]
    exact jis _
 ·have:=jiw (wz xs p xs.length) xs
  constructor
  ·intro h1
   rcases jiv.1 h1 with h1 | h1
   ·exact .inl (jiZ h1)
   ·rcases jir.1 h1 with h1 | h1
    ·exact .inr h1
    ·exact .inl (ji8 h1)
  ·rintro(h1 | h1)
   ·rw [←this] at h1
    rcases jiv.1 h1 with h2 | h2
    ·exact jiv.2 (.inl h2)
    ·exact jiv.2 (.inr (jiq _ h2))
   ·rw [h1];simp
theorem jcV {xs:List Pn} {p:Pn} (h:Asc xs) :Asc (Vg xs p) :=by
 unfold Vg
 split
 ·exact h
 ·rename_i hn
  have hle:=Mm xs p xs.length
  have hs:=jjN.1 ((jiw (wz xs p xs.length) xs).symm▸h:Asc (xs.take (wz xs p xs.length) ++xs.drop (wz xs p xs.length)))
  refine jjN.2 ⟨hs.1,jiR.2 ⟨fun q hq=> ?_,hs.2.1⟩,fun a ha b hb=> ?_⟩
  ·obtain ⟨j,hj,rfl⟩ :=ji0 hq
   rw [jiI] at hj
   rw [List.getElem_drop,Kk Om]
   exact Co xs p xs.length _ Om Om
  ·rcases jir.1 hb with e | hb
   ·subst e
    obtain ⟨j,hj,rfl⟩ :=ji0 ha
    rw [jiy] at hj
    rw [List.getElem_take,Kk Om]
    have hd:=Cn xs b xs.length Om
    have h1:vh (pt xs (wz xs b xs.length- 1)) b:=by
     rcases U4 (pt xs (wz xs b xs.length- 1)) b with h1 | h1 | h1
     ·exact h1
     ·exact absurd ⟨by omega,h1⟩ hn
     ·exact absurd h1 hd
    by_cases e:j=wz xs b xs.length- 1
    ·rw [e];exact h1
    ·have:=jjl.1 h j (wz xs b xs.length- 1) Om Om Om
     rw [Kk Om,Kk Om] at this
     exact Vx this h1
   ·exact hs.2.2 a ha b hb
def kH (l:List Pn) :List Pn:=l.foldl Vg []
theorem Dz (l:List Pn) :∀xs,Asc xs→Asc (l.foldl Vg xs)∧∀q,q∈l.foldl Vg xs↔q∈xs∨q∈l:=by
 induction l with
 | nil=>intro xs h;exact⟨h,fun q=>by simp⟩
 | cons p l ih=>
  intro xs h
  obtain ⟨h1,h2⟩ :=ih (Vg xs p) (jcV h)
  refine⟨h1,fun q=> ?_⟩
  rw [jjd,h2 q,X0,jir]
  constructor
  ·rintro((h | h) | h)
   ·exact .inl h
   ·exact .inr (.inl h)
   ·exact .inr (.inr h)
  ·rintro(h | h | h)
   ·exact .inl (.inl h)
   ·exact .inl (.inr h)
   ·exact .inr h
theorem UO (l:List Pn) :Asc (kH l) := (Dz l [] List.Pairwise.nil).1
theorem Wi (l:List Pn) (q:Pn) :q∈kH l↔q∈l:=by rw [kH,(Dz l [] List.Pairwise.nil).2 q];simp
def QY:List Pn→List Pn
 | [] => []
 | [p] => [p]
 | p::q::l=>if p=q then QY (q::l) else p::QY (q::l)
theorem Zu:∀(l:List Pn) (r:Pn),r∈QY l↔r∈l
 | [],_=>Iff.rfl
 | [_],_=>Iff.rfl
 | p::q::l,r=>by
  unfold QY
  split
  ·rename_i e
   rw [Zu (q::l) r,e]
   simp
  ·rw [jir,Zu (q::l) r]
   simp
def Ris (l:List Pn) :Prop:=l.Pairwise fun p q=>¬vh q p
theorem Dr:∀ {l:List Pn},Ris l→Asc (QY l)
 | [],_=>List.Pairwise.nil
 | [p],_=>jjD _ _
 | p::q::l,h=>by
  have h1:=jiR.1 h
  have ih:=Dr (l:=q::l) h1.2
  unfold QY
  split
  ·exact ih
  ·rename_i hne
   refine jiR.2 ⟨fun r hr=> ?_,ih⟩
   rw [Zu] at hr
   have hpq:vh p q:=by
    rcases U4 p q with h2 | h2 | h2
    ·exact h2
    ·exact absurd h2 hne
    ·exact absurd h2 (h1.1 q (by simp))
   rcases jir.1 hr with e | hr
   ·rw [e];exact hpq
   ·have h3:= (jiR.1 h1.2).1 r hr
    unfold vh at*
    omega
theorem jbs {l m:List Pn} (hs:Ris m) (hp:∀q,q∈m↔q∈l) :QY m=kH l:=
 Fv (Dr hs) (UO l) fun q=>by rw [Zu,hp,Wi]
theorem NU (x:Int) :0≤x*x:=by
 rcases Int.le_total 0 x with h | h
 ·exact jiF h h
 ·have:=jiF (show 0≤-x by omega) (show 0≤-x by omega)
  grind
def TQ (a b c d:Pn) :Int:=ZZ a.1 a.2 b.1 b.2 c.1 c.2 d.1 d.2
def crN (a c d:Pn) :Int:=Li a.1 a.2 c.1 c.2 d.1 d.2
def GH (a b c d:Pn) :Pn:= (Bw a.1 b.1 (crN a c d) (TQ a b c d),Bw a.2 b.2 (crN a c d) (TQ a b c d))
theorem zK (a b c d:Pn) :TQ a b c d=tn c d a- tn c d b:=by
 unfold TQ ZZ tn Q8
 grind
theorem Yp (a c d:Pn) :crN a c d=tn c d a:=by
 unfold crN Li tn Q8
 grind
theorem K3 {a b c d:Pn} (h:qf a b c d=true) :TQ a b c d≠0:=by
 rw [zK]
 simp only [qf,jig,decide_eq_true_eq] at h
 intro e
 have e':tn c d a=tn c d b:=by omega
 rw [e'] at h
 have:=NU (wt (tn c d b))
 omega
theorem jch {a b c d:Pn} (h:qU a b c d=2) : (Qk a b c d).length=0∧TQ a b c d≠0:=by
 unfold qU at h
 split at h
 ·rename_i h0
  split at h
  ·rename_i h1;exact⟨h0,K3 h1⟩
  ·omega
 ·split at h<;>omega
def ZQ (p:Pn) :Prop:= (-1152921504606846976≤p.1∧p.1≤1152921504606846976)∧-1152921504606846976≤p.2∧p.2≤1152921504606846976
theorem bd2.wide {p:Pn} (h:bd2 p) :ZQ p:=by
 obtain ⟨⟨h1,h2⟩,h3,h4⟩ :=h
 exact⟨⟨by omega,by omega⟩,by omega,by omega⟩
theorem jbv {x y n d:Int} (hx: -262144≤x∧x≤262144) (hy: -262144≤y∧y≤262144) (hn: -549755813888≤n∧n≤549755813888) (hd:d≠0) : -1152921504606846976≤Bw x y n d∧Bw x y n d≤1152921504606846976:=by
 rw [TU _ _ _ _ hd]
 split
 ·have h1:=QO (a:=y- x) (b:= -n) (A:=524288) (B:=549755813888) Om Om Om Om
  have h2:=Hv ((y- x) * -n) (-d) 288230376151711744 Om Om Om
  omega
 ·have h1:=QO (a:=y- x) (b:=n) (A:=524288) (B:=549755813888) Om Om Om Om
  have h2:=Hv ((y- x) *n) d 288230376151711744 Om Om Om
  omega
theorem NZ {a b c:Pn} (ha:bd2 a) (hb:bd2 b) (hc:bd2 c) : -549755813888≤tn a b c∧tn a b c≤549755813888:=by
 obtain ⟨⟨a1,a2⟩,a3,a4⟩ :=ha
 obtain ⟨⟨b1,b2⟩,b3,b4⟩ :=hb
 obtain ⟨⟨c1,c2⟩,c3,c4⟩ :=hc
 exact jha _ _ _ _ _ _ a1 a2 a3 a4 b1 b2 b3 b4 c1 c2 c3 c4
theorem jgm {a b c d:Pn} (ha:bd2 a) (hb:bd2 b) (hc:bd2 c) (hd:bd2 d) (h:TQ a b c d≠0) :ZQ (GH a b c d) :=by
 have hn:=NZ hc hd ha
 rw [←Yp] at hn
 exact⟨jbv ha.1 hb.1 hn h,jbv ha.2 hb.2 hn h⟩
theorem yh {p:Pn} (h:bd2 p) :wR p.1 p.2=true:=by
 obtain ⟨⟨h1,h2⟩,h3,h4⟩ :=h
 simp [wR,xZ, *]
theorem TT (a b c d:Pn) (w:World) (ha:bd2 a) (hb:bd2 b) (hc:bd2 c) (hd:bd2 d) (h:TQ a b c d≠0) :Calls Tryz.prog 164 #[pV a,pV b,pV c,pV d] w fun e w'=>e= .returned (pV (GH a b c d))∧Over w w':=
 FF a.1 a.2 b.1 b.2 c.1 c.2 d.1 d.2 w (yh ha) (yh hb) (yh hc) (yh hd) h
theorem BL (a b c d:Pn) (w:World) (ha:bd2 a) (hb:bd2 b) (hc:bd2 c) (hd:bd2 d) (h:qU a b c d=2) :Calls Tryz.prog 161 #[pV a,pV b,pV c,pV d] w fun e w'=>e= .returned (pV (GH a b c d))∧Over w w':=by
 obtain ⟨h0,hD⟩ :=jch h
 have n1:=NZ hc hd ha
 have n2:=NZ hc hd hb
 have eD:=zK a b c d
 have eN:=Yp a c d
 have e1:=TU a.1 b.1 (crN a c d) (TQ a b c d) hD
 have e2:=TU a.2 b.2 (crN a c d) (TQ a b c d) hD
 have f1:=ha;have f2:=hb
 obtain ⟨⟨a1,a2⟩,a3,a4⟩ :=f1
 obtain ⟨⟨b1,b2⟩,b3,b4⟩ :=f2
 have x1:=QO (a:=b.1- a.1) (b:=tn c d a) (A:=524288) (B:=549755813888) Om Om Om Om
 have x2:=QO (a:=b.2- a.2) (b:=tn c d a) (A:=524288) (B:=549755813888) Om Om Om Om
 have x3:=QO (a:=b.1- a.1) (b:= -tn c d a) (A:=524288) (B:=549755813888) Om Om Om Om
 have x4:=QO (a:=b.2- a.2) (b:= -tn c d a) (A:=524288) (B:=549755813888) Om Om Om Om
 rw [eD,eN] at e1 e2
 have hD':tn c d a- tn c d b≠0:=eD▸hD
 have eP:GH a b c d= (Bw a.1 b.1 (tn c d a) (tn c d a- tn c d b),Bw a.2 b.2 (tn c d a) (tn c d a- tn c d b)) :=by rw [GH,eD,eN]
 refine Jh (m:=64) (Tryz.func161) J J (lb J) ?_;refine S3 ?_;refine aX (fun b1=> ?_);refine N1 ?_;refine aX (fun b2=> ?_);refine N1 ?_;refine aX (fun b3=> ?_);refine N1 ?_;refine aX (fun b4=> ?_);refine N1 ?_;refine aL (fun b5=> ?_);refine N8 ?_;refine J4 Y1 (v:=fun x=> .slice x.1 _ x.2) (r:=fun x=>JY 0 56 2 _ _ x) (H:=fun _=>True) J J J (lb J) (fun w1 hs=>Qh (HZ a b c d w1 ha hb hc hd)) ?_
 rintro⟨eA,ec⟩ -
 refine N9 ?_;refine cZ (fun c1=> ?_) (fun c1=> ?_)
 ·omega
 ·refine S7 ?_;refine a9 (jT Qj J J (fun w h=>un _ _ _ w hc hd ha)) ?_;refine S8 ?_;refine a9 (jT Qj J J (fun w h=>un _ _ _ w hc hd hb)) ?_;refine S9 ?_;refine cZ (fun c2=> ?_) (fun c2=> ?_)
  ·have r1:=Hv ((b.1- a.1) * -tn c d a) (-(tn c d a- tn c d b)) 288230376151711744 Om Om Om
   have r2:=Hv ((b.2- a.2) * -tn c d a) (-(tn c d a- tn c d b)) 288230376151711744 Om Om Om
   rw [if_pos c2] at e1 e2
   refine S3 ?_;refine a9 (YD J J Om Om) ?_;refine S4 ?_;refine a9 (YD J J Om Om) ?_;refine S4 ?_;refine Qx 26 [4] ?_;refine dK 0 ?_;refine dK 1 ?_;refine dK 2 ?_;refine dK 3 ?_;refine dK 4 ?_;refine dK 5 ?_;refine dK 6 ?_;refine dK 7 ?_;refine dK 8 ?_;refine dK 9 ?_;refine dZ 10 J (jT wg J J (fun w h=>Calls.still (Un _ _ w Om Om Om Om))) ?_;refine dK 11 ?_;refine dK 12 ?_;refine dK 13 ?_;refine dK 14 ?_;refine dK 15 ?_;refine dK 16 ?_;refine dK 17 ?_;refine dK 18 ?_;refine dK 19 ?_;refine dK 20 ?_;refine dK 21 ?_;refine dZ 22 J (jT wg J J (fun w h=>Calls.still (Un _ _ w Om Om Om Om))) ?_;refine dK 23 ?_;refine dZ 24 J (JU J J (q8 J J)) ?_;refine qe (i:=25) J Dc Kr J ?_;refine S1 ?_;refine JO (uw [4] J) ?_;refine JK Kr ?_;refine S2 ?_;refine jM J (qh (k:=4) J jj J J) ?_
   intro w' hs
   exact⟨by rw [eP,e1,e2],hs.fin⟩
  ·have r1:=Hv ((b.1- a.1) *tn c d a) (tn c d a- tn c d b) 288230376151711744 Om Om Om
   have r2:=Hv ((b.2- a.2) *tn c d a) (tn c d a- tn c d b) 288230376151711744 Om Om Om
   rw [if_neg (jjr.2 c2)] at e1 e2
   refine S4 ?_;refine Qx 26 [4] ?_;refine dK 0 ?_;refine dK 1 ?_;refine dK 2 ?_;refine dK 3 ?_;refine dK 4 ?_;refine dK 5 ?_;refine dK 6 ?_;refine dK 7 ?_;refine dK 8 ?_;refine dK 9 ?_;refine dZ 10 J (jT wg J J (fun w h=>Calls.still (Un _ _ w Om Om Om Om))) ?_;refine dK 11 ?_;refine dK 12 ?_;refine dK 13 ?_;refine dK 14 ?_;refine dK 15 ?_;refine dK 16 ?_;refine dK 17 ?_;refine dK 18 ?_;refine dK 19 ?_;refine dK 20 ?_;refine dK 21 ?_;refine dZ 22 J (jT wg J J (fun w h=>Calls.still (Un _ _ w Om Om Om Om))) ?_;refine dK 23 ?_;refine dZ 24 J (JU J J (q8 J J)) ?_;refine qe (i:=25) J Dc Kr J ?_;refine S1 ?_;refine JO (uw [4] J) ?_;refine JK Kr ?_;refine S2 ?_;refine jM J (qh (k:=4) J jj J J) ?_
   intro w' hs
   exact⟨by rw [eP,e1,e2],hs.fin⟩
section
variable {P:Program} {n:Nat} {env:List (Nat×Value)} {w0:Bs} {Rs:List Res} {ops:Array Oper} {Q:Exit→Act→World→Prop} {K:Act→World→Prop} {o:Oper}
theorem qO {f k d:Nat} (hfn:FnOk P f) {xs:List Operand} {vs:List Value} {ts:Array TypeId} {X:Type} {v:X→Value} {r:Res} {r':X→Res} (ho:o.op= .call {callee:= .value (.func f),args:=xs.toArray,argTypes:=ts}) (hx:TF env xs=some vs) (hd:o.dst=some d) (hn:d<n)
  (hk:Rs[k]? =some r) (hc:∀w,St w0 Rs w→Calls P f vs.toArray w fun e w'=>∃x,e= .returned (v x)∧Wrs r.F w w'∧(r' x).P w'∧(∀b,(r' x).F b→r.F b∨w.heap.size≤b)∧(r' x).B=0)
  (h:∀x,At n ((d,v x) ::env) w0 (Rs.set k (r' x)) K) :At n env w0 Rs (fun a w=>o.wp P a w K Q) :=fun a w hF' hs=>by
 show o.upon P a K Q ((execOp a.eval o).run P w)
 rw [Zh hfn ho hx hF']
 refine Calls.mono (hc w hs) ?_
 rintro e w' ⟨x,rfl,hw,hp,hF,hB⟩
 have hlow:= (hs.all k _ hk).2.1
 show K (a.put o.dst (v x)) w'
 rw [hd]
 refine h x _ _ (hF'.put hn _) (hs.upd hk ⟨hw.os.trans hs.over.os,hw.tape.trans hs.over.tape,hw.output.trans hs.over.output,jjb hs.over.size hw.size,fun c hc' hx'=> ?_⟩ hw.size (fun c hc' hne=>hw.block c hc' hne) hp (fun c hc'=>hF c hc') hB)
 rw [hw.block c (jiu hc' hs.over.size) (fun e=> (hlow c e).elim (fun h1=>by omega) (fun h1=>hx' h1))]
 exact hs.over.block c hc' hx'
theorem ja2 (k:Nat) {B T s m:Nat} {v:Value} {xs:List Value} (hk:Rs[k]? =some (.row B T s v m xs)) (h:At n env w0 (Rs.set k (.row 0 T s v m xs)) K) :At n env w0 Rs K:=fun a w hf hs=>
 h a w hf (hs.chg hk (fun hP=>yb hP (jii _)) (fun c hc=>hc) rfl)
end
theorem Eh {n:Nat} {env:List (Nat×Value)} {w0:Bs} {Rs:List Res} {K:Act→World→Prop} (h:∀w1,St w0 Rs w1→At n env ⟨w1,[]⟩ [] K) :At n env w0 Rs K:=fun a w hf hs=>h w hs a w hf (St.start w)
abbrev yo (xs:List Pn) (x:Nat×Nat) :Res:=JY 0 56 2 xs.length (xs.flatMap Js) (some ⟨x.1,0,none⟩,x.2)
theorem Ws (p q:Pn) (w:World) :Calls Tryz.prog 187 #[pV p,pV q] w fun e w'=>e= .returned (.bool (decide (vh p q)))∧Over w w':=by
 refine Jh (m:=24) (Tryz.func187) J J (lb J) ?_;refine S3 ?_;refine aX (fun b1=> ?_);refine N1 ?_;refine aX (fun b2=> ?_);refine N10 ?_;refine cV 10 (fun g1=> ?_) (fun g1=> ?_)
 ·refine S16 ?_;refine jM J (.tmp J) ?_
  intro w' hs
  exact⟨congrArg Ending.returned (congrArg Value.bool (jiN.2 (Iff.trans (b:=vh p q) (by simp [vh];omega) decide_eq_true_iff.symm))),hs.fin⟩
 ·refine S12 ?_;refine cV 16 (fun g2=> ?_) (fun g2=> ?_)
  ·refine S16 ?_;refine jM J (.tmp J) ?_
   intro w' hs
   exact⟨congrArg Ending.returned (congrArg Value.bool (jiN.2 (Iff.trans (b:=vh p q) (by simp [vh];omega) decide_eq_true_iff.symm))),hs.fin⟩
  ·refine S11 ?_;refine jM J (.tmp J) ?_
   intro w' hs
   exact⟨congrArg Ending.returned (congrArg Value.bool (jiN.2 (Iff.trans (b:=vh p q) (by simp [vh];omega) decide_eq_true_iff.symm))),hs.fin⟩
theorem jac {xs:List Pn} {p:Pn} {k:Nat} (h:¬(0<k∧vh p (pt xs (k- 1)))) :wz xs p k=k:=by
 cases k with
 | zero=>rfl
 | succ k=>
  rw [wz,if_neg]
  intro h1
  exact h ⟨by omega,h1⟩
theorem jab {xs:List Pn} {p:Pn} {k:Nat} (h:0<k∧vh p (pt xs (k- 1))) :wz xs p (k- 1) =wz xs p k:=by
 cases k with
 | zero=>rfl
 | succ k=>
  show wz xs p k=wz xs p (k+1)
  rw [wz,if_pos (show vh p (pt xs k) from h.2)]
theorem jh3 {xs:List Pn} {j:Nat} {p:Pn} : ((px xs j==p.1) && (py xs j==p.2)) =decide (pt xs j=p) :=by
 rw [jiN]
 simp [pt,Prod.ext_iff]
theorem jcX {xs:List Pn} {p:Pn} {k:Nat} (h:k=wz xs p xs.length) (hk:0<k∧pt xs (k- 1) =p) :Vg xs p=xs:=by
 subst h
 rw [Vg,if_pos hk]
theorem jcW {xs:List Pn} {p:Pn} {k:Nat} (h:k=wz xs p xs.length) (hk:¬(0<k∧pt xs (k- 1) =p)) :Vg xs p=xs.take k++p::xs.drop k:=by
 subst h
 rw [Vg,if_neg hk]
theorem xv (g c n:Nat) (xs:List Pn) (p:Pn) (w:World) (h:Pts w (some ⟨g,0,none⟩) n xs) (hc:n≤c) (hn:n≤1048576) :
  Calls Tryz.prog 160 #[.slice (some ⟨g,0,none⟩) n c,pV p] w fun e w'=> (e= .returned (.slice (some ⟨g,0,none⟩) n c)∧Vg xs p=xs∧Over w w')∨∃v,e= .returned v∧w'.ownsRow w.heap.size 56 2 v (Vg xs p).length ((Vg xs p).flatMap Js)∧Over w w':=by
 have hl:=h.1
 refine Jh (m:=48) (Tryz.func160) J J (lb J) ?_;refine S3 ?_;refine aX (fun b1=> ?_);refine N10 ?_;refine qz (X:=Nat) (fun k=>k≤n∧wz xs p k=wz xs p n) (fun k=>k) (fun k=> [(5, .int .i64 (k:Int))]) (kK [0,3,4]) n (⟨jih _,J⟩) ⟨J,sz⟩ ?_
 intro k hk L hL1
 refine V1 ?_;refine qt [(19, .bool (decide (0<k∧vh p (pt xs (k- 1)))))] (kK [0,3,4,5]) (fun L h_2=> ?_) ?_
 ·refine S1 ?_;refine JS 11 ?_;refine dK 0 ?_;refine dK 1 ?_;refine dK 2 ?_;refine cV 11 (fun g1=> ?_) (fun g1=> ?_)
  ·refine eK 3 ?_;refine eK 4 ?_;refine eK 5 ?_;refine eZ 6 J ((JJ J J J Om Om).as (congrArg _ (show((k:Int) - 1) = ((k- 1:Nat) :Int) by omega))) ?_;refine eK 7 ?_;refine eZ 8 J (jk J J jj J (wL h Om)) ?_;refine eZ 9 J (jT Kj J J (fun w _=>Ws p (pt xs (k- 1)) w)) ?_;refine dK 10 ?_;refine JK Kr ?_;refine S1 ?_
   exact Jk h_2 ⟨vb (by simp;omega),sz⟩ (u9 J)
  ·refine fK 3 ?_;refine fK 4 ?_;refine fK 5 ?_;refine fK 6 ?_;refine fK 7 ?_;refine fK 8 ?_;refine fK 9 ?_;refine dK 10 ?_;refine JK Kr ?_;refine S1 ?_
   exact Jk h_2 ⟨vb (by simp;omega),sz⟩ (u9 J)
 ·refine v9 ?_;refine cZ (fun c1=> ?_) (fun c1=> ?_)
  ·refine S10 ?_
   exact qi hL1 (k- 1) (⟨by omega,(jab c1).trans hk.2⟩) Om ⟨vi Om,sz⟩ (u9 J)
  ·have hpos:k=wz xs p xs.length:=by rw [hl,←hk.2,jac c1]
   refine S6 ?_;refine qt [(32, .bool (decide (0<k∧pt xs (k- 1) =p)))] (kK [0,3,4,5]) (fun L h_4=> ?_) ?_
   ·refine S1 ?_;refine JS 11 ?_;refine dK 0 ?_;refine dK 1 ?_;refine dK 2 ?_;refine cV 24 (fun g2=> ?_) (fun g2=> ?_)
    ·refine eK 3 ?_;refine eK 4 ?_;refine eZ 5 J ((JJ J J J Om Om).as (congrArg _ (show((k:Int) - 1) = ((k- 1:Nat) :Int) by omega))) ?_;refine eK 6 ?_;refine eZ 7 J (jk J J jj J (wL h Om)) ?_;refine eK 8 ?_;refine eK 9 ?_;refine dK 10 ?_;refine JK Kr ?_;refine S1 ?_
     exact Jk h_4 ⟨vb (by rw [jh3];simp;omega),sz⟩ (u9 J)
    ·refine fK 3 ?_;refine fK 4 ?_;refine fK 5 ?_;refine fK 6 ?_;refine fK 7 ?_;refine fK 8 ?_;refine fK 9 ?_;refine dK 10 ?_;refine JK Kr ?_;refine S1 ?_
     exact Jk h_4 ⟨vb (by rw [decide_eq_false (fun h=>absurd h.1 Om)]),sz⟩ (u9 J)
   ·refine v9 ?_;refine cZ (fun c2=> ?_) (fun c2=> ?_)
    ·refine S7 ?_;refine jM J (.tmp J) ?_
     intro w' hs
     exact .inl ⟨rfl,jcX hpos c2,hs.fin⟩
    ·have hput:=jcW hpos c2
     have hpl: (Vg xs p).length=0+k+1+ (n- k) :=by rw [hput,jif,jim,jiy,jiI];omega
     refine S5 ?_;refine Jx J J (vK) J (lb J) (fun b2=> ?_);refine WF 1 2 J J ?_;refine N2 ?_;refine a9 ((Kl J J J jw Om).as (WT _ _ _ _ _)) ?_;refine S1 ?_;refine JV (k:=1) J jw jH Dc J Dc J J J (fun w' hs=>IG (h.over hs.fin) Om) (Ww _) (by unfold maxLen;omega) Om (jih _) (fun r1=> ?_);refine N7 ?_;refine Jx J J (qM J) J (lb J) (fun b3=> ?_);refine N1 ?_;refine JV (k:=1) J jw jH Dc J Dc J J J (fun w' hs=>Qb hs (k:=2) J J) (by simp [Value.oneCell']) (by unfold maxLen;omega) Om (jih _) (fun r2=> ?_);refine N7 ?_;refine a9 ((Vy J J J jw Om).as (Uq (b:=g) (o:=0) (l:=k) (h:=n) (m:=c) (s:=2) hc Om)) ?_;refine S1 ?_;refine JV (k:=1) J jw jH Dc J Dc J J J (fun w' hs=>jft (h.over hs.fin) Om hc) (Ww _) (by unfold maxLen;omega) Om (jih _) (fun r3=> ?_);refine N3 ?_;refine jM J (.tmp J) ?_
     intro w' hs
     have hr:= (hs.all 1 _ rfl).1
     exact .inr ⟨_,rfl,by rw [hpl,hput,jio,jiB,←jil];exact hr,hs.fin⟩
theorem jff {g c:Nat} {xs:List Pn} {p:Pn} {w:World} (h: (yo xs (g,c)).P w) (hn:xs.length≤1048576) :
  Calls Tryz.prog 160 #[.slice (some ⟨g,0,none⟩) xs.length c,pV p] w fun e w'=>∃x:Nat×Nat,e= .returned (.slice (some ⟨x.1,0,none⟩) (Vg xs p).length x.2)∧Wrs (yo xs (g,c)).F w w'∧(yo (Vg xs p) x).P w'∧(∀b,(yo (Vg xs p) x).F b→(yo xs (g,c)).F b∨w.heap.size≤b)∧(yo (Vg xs p) x).B=0:=by
 refine(xv g c xs.length xs p w (uu h J) (uZ h) hn).mono ?_
 rintro e w' (⟨rfl,hp,hO⟩ |⟨v,rfl,hr,hO⟩)
 ·refine⟨(g,c),by rw [hp],Wrs.of hO,?_,fun b hb=> .inl (by rw [hp] at hb;exact hb),J⟩
  rw [hp]
  exact(yo xs (g,c)).dep w w' h hO.size fun b hb _=>hO.out.block b hb
 ·obtain ⟨x,rfl⟩ :=ux hr
  have h0:0< (Vg xs p).length:=List.length_pos_of_mem (X0.2 (.inr rfl))
  have hs:∃g2,x.1=some ⟨g2,0,none⟩ :=by
   rcases hr.2 with⟨_,e⟩ |⟨g2,cap,cur,e,_⟩
   ·omega
   ·injection e with e1
    exact⟨g2,e1⟩
  obtain ⟨g2,hg2⟩ :=hs
  obtain ⟨xA,xc⟩ :=x
  simp only at hg2
  subst hg2
  exact⟨(g2,xc),rfl,Wrs.of hO,yb hr (jii _),fun b hb=> .inr (hr.lt b hb).1,rfl⟩
def UE (w1:World) (g:Nat) (xs:List Pn) (x:Nat×Nat) :Res:=if x.1<w1.heap.size then {F:=fun _=>False,P:=fun _=>x.1=g∧(yo xs x).P w1,low:=fun _ _ _ h=>h.elim,B:=0,dep:=fun _ _ h _ _=>h} else yo xs x
theorem FP (w1:World) (g:Nat) (xs:List Pn) (x:Nat×Nat) : (UE w1 g xs x).B=0:=by unfold UE;split<;>rfl
theorem jbR {w1 w':World} {g:Nat} {xs:List Pn} {x:Nat×Nat} (h: (UE w1 g xs x).P w') (hO:Over w1 w') : (yo xs x).P w'∧(x.1=g∨w1.heap.size≤x.1) :=by
 unfold UE at h
 split at h
 ·exact⟨(yo xs x).dep w1 w' h.2 hO.size fun b hb _=>hO.out.block b hb, .inl h.1⟩
 ·rename_i hn
  exact⟨h, .inr Om⟩
theorem jgt {xs:List Pn} {x:Nat×Nat} {b:Nat} (h: (yo xs x).F b) :b=x.1:=by
 have h:some x.1=some b:=h
 injection h with h
 exact h.symm
theorem R8 {w1 w':World} {g:Nat} {xs:List Pn} {x:Nat×Nat} (h: (yo xs x).P w') (hx:w1.heap.size≤x.1) : (UE w1 g xs x).P w':=by
 unfold UE
 rw [if_neg Om]
 exact h
theorem jfe {w1 w':World} {g c:Nat} {xs:List Pn} {p:Pn} (h: (yo xs (g,c)).P w1) (hO:Over w1 w') (hn:xs.length≤1048576) :
  Calls Tryz.prog 160 #[.slice (some ⟨g,0,none⟩) xs.length c,pV p] w' fun e w''=>∃x:Nat×Nat,e= .returned (.slice (some ⟨x.1,0,none⟩) (Vg xs p).length x.2)∧Over w' w''∧(UE w1 g (Vg xs p) x).P w''∧(∀b,(UE w1 g (Vg xs p) x).F b→w'.heap.size≤b)∧(UE w1 g (Vg xs p) x).B=0∧True:=by
 have hg:g<w1.heap.size:= (yo xs (g,c)).low w1 h g rfl
 have h':= (yo xs (g,c)).dep w1 w' h hO.size fun b hb _=>hO.out.block b hb
 refine(xv g c xs.length xs p w' (uu h' J) (uZ h') hn).mono ?_
 rintro e w'' (⟨rfl,hp,hO'⟩ |⟨v,rfl,hr,hO'⟩)
 ·refine⟨(g,c),by rw [hp],hO',?_,fun b hb=> ?_,FP _ _ _ _,trivial⟩
  ·rw [hp]
   unfold UE
   rw [if_pos hg]
   exact⟨rfl,h⟩
  ·unfold UE at hb
   rw [if_pos hg] at hb
   exact hb.elim
 ·obtain ⟨x,rfl⟩ :=ux hr
  have h0:0< (Vg xs p).length:=List.length_pos_of_mem (X0.2 (.inr rfl))
  obtain ⟨g2,hg2⟩ :∃g2,x.1=some ⟨g2,0,none⟩ :=by
   rcases hr.2 with⟨_,e⟩ |⟨g2,cap,cur,e,_⟩
   ·omega
   ·injection e with e1
    exact⟨g2,e1⟩
  obtain ⟨xA,xc⟩ :=x
  simp only at hg2
  subst hg2
  have hlt:=hr.lt g2 rfl
  refine⟨(g2,xc),J,hO',R8 (yb hr (jii _)) (jjb hO.size hlt.1),fun b hb=> ?_,FP _ _ _ _,trivial⟩
  unfold UE at hb
  split at hb
  ·exact hb.elim
  ·rw [jgt hb];exact hlt.1
theorem jad {w1 w':World} {g g1 c:Nat} {xs:List Pn} {p:Pn} (h: (UE w1 g xs (g1,c)).P w') (hO:Over w1 w') (hn:xs.length≤1048576) :
  Calls Tryz.prog 160 #[.slice (some ⟨g1,0,none⟩) xs.length c,pV p] w' fun e w''=>∃x:Nat×Nat,e= .returned (.slice (some ⟨x.1,0,none⟩) (Vg xs p).length x.2)∧Wrs (UE w1 g xs (g1,c)).F w' w''∧(UE w1 g (Vg xs p) x).P w''∧(∀b,(UE w1 g (Vg xs p) x).F b→(UE w1 g xs (g1,c)).F b∨w'.heap.size≤b)∧(UE w1 g (Vg xs p) x).B=0:=by
 have h':= (jbR h hO).1
 refine(xv g1 c xs.length xs p w' (uu h' J) (uZ h') hn).mono ?_
 rintro e w'' (⟨rfl,hp,hO'⟩ |⟨v,rfl,hr,hO'⟩)
 ·refine⟨(g1,c),by rw [hp],Wrs.of hO',?_,fun b hb=> .inl (by rw [hp] at hb;exact hb),FP _ _ _ _⟩
  rw [hp]
  exact(UE w1 g xs (g1,c)).dep w' w'' h hO'.size fun b hb _=>hO'.out.block b hb
 ·obtain ⟨x,rfl⟩ :=ux hr
  have h0:0< (Vg xs p).length:=List.length_pos_of_mem (X0.2 (.inr rfl))
  obtain ⟨g2,hg2⟩ :∃g2,x.1=some ⟨g2,0,none⟩ :=by
   rcases hr.2 with⟨_,e⟩ |⟨g2,cap,cur,e,_⟩
   ·omega
   ·injection e with e1
    exact⟨g2,e1⟩
  obtain ⟨xA,xc⟩ :=x
  simp only at hg2
  subst hg2
  have hlt:=hr.lt g2 rfl
  refine⟨(g2,xc),J,Wrs.of hO',R8 (yb hr (jii _)) (jjb hO.size hlt.1),fun b hb=> .inr ?_,FP _ _ _ _⟩
  unfold UE at hb
  split at hb
  ·exact hb.elim
  ·rw [jgt hb];exact hlt.1
theorem jdU {n:Nat} {env:List (Nat×Value)} {w0:Bs} {Rs Rs2:List Res} {K:Act→World→Prop} {w1:World} (hs1:St w0 Rs w1) (k j:Nat) {g c:Nat} {xs xs2:List Pn} {x2:Nat×Nat} (hk:Rs[k]? =some (yo xs (g,c))) (hj:Rs2[j]? =some (UE w1 g xs2 x2)) (h:At n env w0 (Rs.set k (yo xs2 x2)) K) :At n env ⟨w1,[]⟩ Rs2 K:=fun a w' hf hs=>by
 have hO:Over w1 w':=hs.fin
 obtain ⟨hP,hx⟩ :=jbR (hs.all j _ hj).1 hO
 refine h a w' hf (hs1.upd hk ⟨hO.out.os.trans hs1.over.os,hO.out.tape.trans hs1.over.tape,hO.out.output.trans hs1.over.output,jjb hs1.over.size hO.size,fun c hc' hx'=> ?_⟩ hO.size (fun b hb _=>hO.out.block b hb) hP (fun b hb=> ?_) J)
 ·exact(hO.out.block c (jiu hc' hs1.over.size)).trans (hs1.over.block c hc' hx')
 ·have e:=jgt hb
  rcases hx with h1 | h1
  ·left;show some g=some b;rw [e,h1]
  ·right;omega
def cz (ls:List Leg) (i:Nat) :Nat→List Pn
 | 0=> []
 | k+1=>cz ls i k++ (if qU (lA (lg ls i)) (lB (lg ls i)) (lA (lg ls k)) (lB (lg ls k)) =2 then [GH (lA (lg ls i)) (lB (lg ls i)) (lA (lg ls k)) (lB (lg ls k))] else [])
def U0 (ls:List Leg) :Nat→List Pn
 | 0=> []
 | i+1=>U0 ls i++ [lA (lg ls i),lB (lg ls i)] ++cz ls i i
theorem TW (ls:List Leg) (i:Nat) :∀k,(cz ls i k).length≤k
 | 0=>jih _
 | k+1=>by
  have:=TW ls i k
  unfold cz
  rw [jif]
  split<;>simp<;>omega
theorem Zz (ls:List Leg) :∀i,(U0 ls i).length≤i* (i+2)
 | 0=>jih _
 | i+1=>by
  have h1:=Zz ls i
  have h2:=TW ls i i
  unfold U0
  rw [jif,jif]
  simp only [jim,jiH]
  have e: (i+1) * (i+1+2) =i* (i+2) +2*i+3:=by simp only [Nat.add_mul,Nat.mul_add];omega
  omega
def uX (ls:List Leg) (i k:Nat) :List Pn:=U0 ls i++ [lA (lg ls i),lB (lg ls i)] ++cz ls i k
theorem Cp {ls:List Leg} {i k:Nat} (hi:i<400) (hk:k≤i) : (uX ls i k).length≤170000:=by
 have h1:=Zz ls i
 have h2:=TW ls i k
 have h3:i* (i+2)≤400*402:=jp0 Om Om
 unfold uX
 rw [jif,jif]
 simp only [jim,jiH]
 omega
theorem Tc (xs:List Pn) (p:Pn) : (Vg xs p).length≤xs.length+1:=by
 have:=Mm xs p xs.length
 unfold Vg
 split
 ·omega
 ·rw [jif,jim,jiy,jiI];omega
theorem ED (l:List Pn) :∀xs,(l.foldl Vg xs).length≤xs.length+l.length:=by
 induction l with
 | nil=>intro xs;exact jih _
 | cons p l ih=>
  intro xs
  have h1:=ih (Vg xs p)
  have h2:=Tc xs p
  rw [jjd,jim]
  omega
theorem xI (l:List Pn) : (kH l).length≤l.length:=by have:=ED l [];simpa [kH] using this
theorem NI (l:List Pn) (p:Pn) :kH (l++ [p]) =Vg (kH l) p:=by simp [kH,jj7]
theorem Tb (ls:List Leg) (i:Nat) :kH (uX ls i 0) =Vg (Vg (kH (U0 ls i)) (lA (lg ls i))) (lB (lg ls i)) :=by
 simp [uX,cz,kH,jj7]
theorem OM {ls:List Leg} {i k:Nat} (h:qU (lA (lg ls i)) (lB (lg ls i)) (lA (lg ls k)) (lB (lg ls k)) =2) :kH (uX ls i (k+1)) =Vg (kH (uX ls i k)) (GH (lA (lg ls i)) (lB (lg ls i)) (lA (lg ls k)) (lB (lg ls k))) :=by
 rw [←NI,uX,cz,if_pos h,←jil]
 rfl
theorem D5 {ls:List Leg} {i k:Nat} (h:¬qU (lA (lg ls i)) (lB (lg ls i)) (lA (lg ls k)) (lB (lg ls k)) =2) :kH (uX ls i (k+1)) =kH (uX ls i k) :=by
 rw [uX,cz,if_neg h,jiG]
 rfl
theorem jfQ {w:World} {b o n:Nat} {ls:List Leg} (h:Legs w (some ⟨b,o,none⟩) n ls) (hn:0<n) :b<w.heap.size:=by
 obtain ⟨b',o',e,hb,_⟩ :=h.2 hn
 injection e with e
 injection e with e1 e2
 subst e1
 exact hb
theorem vv {w:World} {B N T s n:Nat} {v:Value} {xs:List Value} (h:w.ownsRow B T s v n xs) (hN:∀b,v.ownBlock=some b→N≤b) :w.ownsRow N T s v n xs:=by
 refine⟨h.1,?_⟩
 rcases h.2 with e |⟨g,cap,cur,rfl,hb,rest⟩
 ·exact .inl e
 ·exact .inr ⟨g,cap,cur,rfl,hN g rfl,rest⟩
theorem Nl (A:Option Addr) (n c:Nat) (ls:List Leg) (w:World) (h:Legs w A n ls) (hok:∀l∈ls,qN l) (hn:n≤400) :
  Calls Tryz.prog 103 #[.slice A n c] w fun e w'=>∃v,e= .returned v∧w'.ownsRow w.heap.size 56 2 v (kH (U0 ls n)).length ((kH (U0 ls n)).flatMap Js)∧Over w w':=by
 have hl:=h.1
 refine Jh (m:=81) (Tryz.func103) J J (lb J) ?_;refine S7 ?_;refine Jx J J (vK) J (lb J) (fun b1=> ?_);refine WF 0 2 J J ?_;refine N2 ?_;refine ja2 0 J ?_;refine t9 ?_;refine S6 ?_;refine JQ (X:=Nat×Nat×Nat) (fun x=>x.1≤n) (fun x=>n- x.1) (fun x=> [(3, .slice (some ⟨x.2.1,0,none⟩) (kH (U0 ls x.1)).length x.2.2),(4, .int .i64 (x.1:Int))]) (kK [0,2]) (fun x=> [yo (kH (U0 ls x.1)) x.2]) (0,b1,0) (jii _) ⟨J,sz⟩ (fun _ h=>h) ?_
 intro⟨i,g,gc⟩ hi L hL1
 refine v9 ?_;refine r9 ?_
 have hi:i≤n:=hi
 refine S8 ?_;refine cZ (fun c1=> ?_) (fun c1=> ?_)
 ·have hlt:i<n:=Om
  obtain ⟨eb,eo,rfl,_⟩ :=h.2 Om
  have hhl:=Zz ls i
  have hh2:i* (i+2)≤400*402:=jp0 Om Om
  have hpa:=xI (U0 ls i)
  have hpb:=Tc (kH (U0 ls i)) (lA (lg ls i))
  refine S12 ?_
  refine Eh fun w1 hs1=> ?_
  have h1:=h.over hs1.fin
  have hp1:= (hs1.all 0 _ rfl).1
  refine S1 ?_;refine JS 10 ?_;refine dV 0 [5] ?_;refine dV 1 [2,3,4,5] ?_;refine dV 2 [3,4,5] ?_;refine dV 3 [4,5] ?_;refine d9 4 rfl [5] (u9 rfl) (jk rfl rfl jj rfl (by first | exact J5 (b:=eb) (o:=eo) (j:=i) (fun w' hs=>h.over hs.fin) hlt | exact JX (b:=eb) (o:=eo) (j:=i) (fun w' hs=>h.over hs.fin) hlt | exact J5 (b:=eb) (o:=eo) (j:=k) (fun w' hs=>h.over hs.fin) hkl | exact JX (b:=eb) (o:=eo) (j:=k) (fun w' hs=>h.over hs.fin) hkl | exact J5 (b:=eb) (o:=eo) (j:=i) (fun w' hs=>h1.over hs.fin) hlt | exact JX (b:=eb) (o:=eo) (j:=i) (fun w' hs=>h1.over hs.fin) hlt)) ?_;refine dV 6 [7,8,9] ?_;refine dV 7 [8,9] ?_;refine dV 8 [9] ?_;refine dZ 9 rfl (jk rfl rfl jj rfl (by first | exact J5 (b:=eb) (o:=eo) (j:=i) (fun w' hs=>h.over hs.fin) hlt | exact JX (b:=eb) (o:=eo) (j:=i) (fun w' hs=>h.over hs.fin) hlt | exact J5 (b:=eb) (o:=eo) (j:=k) (fun w' hs=>h.over hs.fin) hkl | exact JX (b:=eb) (o:=eo) (j:=k) (fun w' hs=>h.over hs.fin) hkl | exact J5 (b:=eb) (o:=eo) (j:=i) (fun w' hs=>h1.over hs.fin) hlt | exact JX (b:=eb) (o:=eo) (j:=i) (fun w' hs=>h1.over hs.fin) hlt)) ?_;refine qe (i:=5) J Dc Kr J ?_;refine J4 UN (v:=fun x:Nat×Nat=> .slice (some ⟨x.1,0,none⟩) _ x.2) (r:=fun x=>UE w1 _ _ x) (H:=fun _=>True) J J J (lb J) (fun w2 hs=>jfe (p:=lA (lg ls i)) hp1 hs.fin Om) ?_
  rintro⟨g1,gc1⟩ -
  refine n9 ?_;refine Yq (u9 J) ?_;refine vg J Kr J ?_;refine qO (k:=0) (v:=fun x:Nat×Nat=> .slice (some ⟨x.1,0,none⟩) _ x.2) (r':=fun x=>UE w1 _ _ x) UN J J J Dc J (fun w2 hs=>jad (p:=lB (lg ls i)) (hs.all 0 _ J).1 hs.fin Om) ?_
  rintro⟨g2,gc2⟩
  refine n9 ?_;refine JS 12 ?_;refine dK 11 ?_;refine JK Kr ?_;refine jdU hs1 0 0 J J ?_;refine t9 ?_
  rw [←Tb]
  refine S6 ?_;refine JQ (X:=Nat×Nat×Nat) (fun x=>x.1≤i) (fun x=>i- x.1) (fun x=> [(3, .slice (some ⟨x.2.1,0,none⟩) (kH (uX ls i x.1)).length x.2.2),(6, .int .i64 (x.1:Int))]) (kK [0,2,4,9,10,11,12,15,16,17,5,18,19,20,21,22,24,25,26,27,23,28]) (fun x=> [yo (kH (uX ls i x.1)) x.2]) (0,g2,gc2) (jii _) ⟨J,sz⟩ (fun _ h=>h) ?_
  intro⟨k,g,gc⟩ hk L hL2
  refine v9 ?_;refine r9 ?_
  have hk:k≤i:=hk
  refine S7 ?_;refine cZ (fun c2=> ?_) (fun c2=> ?_)
  ·have hkt:k<i:=Om
   have hkl:k<n:=Om
   have hpl:=Cp (ls:=ls) (k:=k) (show i<400 by omega) hk
   have hpa:=xI (uX ls i k)
   refine S11 ?_;refine qt [(60, .bool (decide (qU (lA (lg ls i)) (lB (lg ls i)) (lA (lg ls k)) (lB (lg ls k)) =2)))] (kK [0,2,4,9,10,11,12,15,16,17,5,18,19,20,21,22,24,25,26,27,23,28,3,6,29,30,31,34,35,36,7]) (fun L h_11=> ?_) ?_
   ·refine S1 ?_;refine JS 24 ?_;refine dK 0 ?_;refine dK 1 ?_;refine dZ 2 J (jT yU J J (fun w1 hs=>Xw eb _ eb _ (lg ls i) (lg ls k) w1 (ya (fun w' hs=>h.over hs.fin) hlt w1 hs) (ya (fun w' hs=>h.over hs.fin) hkl w1 hs) (jfQ (h.over hs.fin) Om) (jfQ (h.over hs.fin) Om))) ?_;refine dK 3 ?_;refine dK 4 ?_;refine cV 41 (fun g1=> ?_) (fun g1=> ?_)
    ·refine eK 5 ?_;refine eK 6 ?_;refine eK 7 ?_;refine eZ 8 rfl (jk rfl rfl jj rfl (by first | exact J5 (b:=eb) (o:=eo) (j:=i) (fun w' hs=>h.over hs.fin) hlt | exact JX (b:=eb) (o:=eo) (j:=i) (fun w' hs=>h.over hs.fin) hlt | exact J5 (b:=eb) (o:=eo) (j:=k) (fun w' hs=>h.over hs.fin) hkl | exact JX (b:=eb) (o:=eo) (j:=k) (fun w' hs=>h.over hs.fin) hkl | exact J5 (b:=eb) (o:=eo) (j:=i) (fun w' hs=>h1.over hs.fin) hlt | exact JX (b:=eb) (o:=eo) (j:=i) (fun w' hs=>h1.over hs.fin) hlt)) ?_;refine eK 9 ?_;refine eK 10 ?_;refine eK 11 ?_;refine eZ 12 rfl (jk rfl rfl jj rfl (by first | exact J5 (b:=eb) (o:=eo) (j:=i) (fun w' hs=>h.over hs.fin) hlt | exact JX (b:=eb) (o:=eo) (j:=i) (fun w' hs=>h.over hs.fin) hlt | exact J5 (b:=eb) (o:=eo) (j:=k) (fun w' hs=>h.over hs.fin) hkl | exact JX (b:=eb) (o:=eo) (j:=k) (fun w' hs=>h.over hs.fin) hkl | exact J5 (b:=eb) (o:=eo) (j:=i) (fun w' hs=>h1.over hs.fin) hlt | exact JX (b:=eb) (o:=eo) (j:=i) (fun w' hs=>h1.over hs.fin) hlt)) ?_;refine eK 13 ?_;refine eK 14 ?_;refine eK 15 ?_;refine eZ 16 rfl (jk rfl rfl jj rfl (by first | exact J5 (b:=eb) (o:=eo) (j:=i) (fun w' hs=>h.over hs.fin) hlt | exact JX (b:=eb) (o:=eo) (j:=i) (fun w' hs=>h.over hs.fin) hlt | exact J5 (b:=eb) (o:=eo) (j:=k) (fun w' hs=>h.over hs.fin) hkl | exact JX (b:=eb) (o:=eo) (j:=k) (fun w' hs=>h.over hs.fin) hkl | exact J5 (b:=eb) (o:=eo) (j:=i) (fun w' hs=>h1.over hs.fin) hlt | exact JX (b:=eb) (o:=eo) (j:=i) (fun w' hs=>h1.over hs.fin) hlt)) ?_;refine eK 17 ?_;refine eK 18 ?_;refine eK 19 ?_;refine eZ 20 rfl (jk rfl rfl jj rfl (by first | exact J5 (b:=eb) (o:=eo) (j:=i) (fun w' hs=>h.over hs.fin) hlt | exact JX (b:=eb) (o:=eo) (j:=i) (fun w' hs=>h.over hs.fin) hlt | exact J5 (b:=eb) (o:=eo) (j:=k) (fun w' hs=>h.over hs.fin) hkl | exact JX (b:=eb) (o:=eo) (j:=k) (fun w' hs=>h.over hs.fin) hkl | exact J5 (b:=eb) (o:=eo) (j:=i) (fun w' hs=>h1.over hs.fin) hlt | exact JX (b:=eb) (o:=eo) (j:=i) (fun w' hs=>h1.over hs.fin) hlt)) ?_;refine eZ 21 J (jT UM J J (fun w1 hs=>zV (lA (lg ls i)) (lB (lg ls i)) (lA (lg ls k)) (lB (lg ls k)) w1 (VG (QS hok Om)) (wq (QS hok Om)) (VG (QS hok Om)) (wq (QS hok Om)))) ?_;refine eK 22 ?_;refine dK 23 ?_;refine JK Kr ?_;refine S1 ?_
     exact Jk h_11 ⟨vb (by rw [jiN];simp),sz⟩ (u9 J)
    ·refine fK 5 ?_;refine fK 6 ?_;refine fK 7 ?_;refine fK 8 ?_;refine fK 9 ?_;refine fK 10 ?_;refine fK 11 ?_;refine fK 12 ?_;refine fK 13 ?_;refine fK 14 ?_;refine fK 15 ?_;refine fK 16 ?_;refine fK 17 ?_;refine fK 18 ?_;refine fK 19 ?_;refine fK 20 ?_;refine fK 21 ?_;refine fK 22 ?_;refine dK 23 ?_;refine JK Kr ?_;refine S1 ?_
     exact Jk h_11 ⟨vb (by rw [Yi g1];rfl),sz⟩ (u9 J)
   ·refine v9 ?_;refine cZ (fun c3=> ?_) (fun c3=> ?_)
    ·refine S1 ?_;refine JS 18 ?_;refine dK 0 ?_;refine dV 1 [2,3,4,17] ?_;refine dV 2 [3,4,17] ?_;refine dV 3 [4,17] ?_;refine d9 4 rfl [17] (u9 rfl) (jk rfl rfl jj rfl (by first | exact J5 (b:=eb) (o:=eo) (j:=i) (fun w' hs=>h.over hs.fin) hlt | exact JX (b:=eb) (o:=eo) (j:=i) (fun w' hs=>h.over hs.fin) hlt | exact J5 (b:=eb) (o:=eo) (j:=k) (fun w' hs=>h.over hs.fin) hkl | exact JX (b:=eb) (o:=eo) (j:=k) (fun w' hs=>h.over hs.fin) hkl | exact J5 (b:=eb) (o:=eo) (j:=i) (fun w' hs=>h1.over hs.fin) hlt | exact JX (b:=eb) (o:=eo) (j:=i) (fun w' hs=>h1.over hs.fin) hlt)) ?_;refine dV 5 [6,7,8,17] ?_;refine dV 6 [7,8,17] ?_;refine dV 7 [8,17] ?_;refine d9 8 rfl [17] (u9 rfl) (jk rfl rfl jj rfl (by first | exact J5 (b:=eb) (o:=eo) (j:=i) (fun w' hs=>h.over hs.fin) hlt | exact JX (b:=eb) (o:=eo) (j:=i) (fun w' hs=>h.over hs.fin) hlt | exact J5 (b:=eb) (o:=eo) (j:=k) (fun w' hs=>h.over hs.fin) hkl | exact JX (b:=eb) (o:=eo) (j:=k) (fun w' hs=>h.over hs.fin) hkl | exact J5 (b:=eb) (o:=eo) (j:=i) (fun w' hs=>h1.over hs.fin) hlt | exact JX (b:=eb) (o:=eo) (j:=i) (fun w' hs=>h1.over hs.fin) hlt)) ?_;refine dV 9 [10,11,12,17] ?_;refine dV 10 [11,12,17] ?_;refine dV 11 [12,17] ?_;refine d9 12 rfl [17] (u9 rfl) (jk rfl rfl jj rfl (by first | exact J5 (b:=eb) (o:=eo) (j:=i) (fun w' hs=>h.over hs.fin) hlt | exact JX (b:=eb) (o:=eo) (j:=i) (fun w' hs=>h.over hs.fin) hlt | exact J5 (b:=eb) (o:=eo) (j:=k) (fun w' hs=>h.over hs.fin) hkl | exact JX (b:=eb) (o:=eo) (j:=k) (fun w' hs=>h.over hs.fin) hkl | exact J5 (b:=eb) (o:=eo) (j:=i) (fun w' hs=>h1.over hs.fin) hlt | exact JX (b:=eb) (o:=eo) (j:=i) (fun w' hs=>h1.over hs.fin) hlt)) ?_;refine dV 13 [14,15,16,17] ?_;refine dV 14 [15,16,17] ?_;refine dV 15 [16,17] ?_;refine d9 16 rfl [17] (u9 rfl) (jk rfl rfl jj rfl (by first | exact J5 (b:=eb) (o:=eo) (j:=i) (fun w' hs=>h.over hs.fin) hlt | exact JX (b:=eb) (o:=eo) (j:=i) (fun w' hs=>h.over hs.fin) hlt | exact J5 (b:=eb) (o:=eo) (j:=k) (fun w' hs=>h.over hs.fin) hkl | exact JX (b:=eb) (o:=eo) (j:=k) (fun w' hs=>h.over hs.fin) hkl | exact J5 (b:=eb) (o:=eo) (j:=i) (fun w' hs=>h1.over hs.fin) hlt | exact JX (b:=eb) (o:=eo) (j:=i) (fun w' hs=>h1.over hs.fin) hlt)) ?_;refine dZ 17 J (jT ZT J J (fun w1 hs=>BL (lA (lg ls i)) (lB (lg ls i)) (lA (lg ls k)) (lB (lg ls k)) w1 (VG (QS hok Om)) (wq (QS hok Om)) (VG (QS hok Om)) (wq (QS hok Om)) c3)) ?_;refine vg J Kr J ?_;refine qO (k:=0) (v:=fun x:Nat×Nat=> .slice (some ⟨x.1,0,none⟩) _ x.2) (r':=fun x=>yo _ x) UN J J J Dc J (fun w1 hs=>jff (p:=GH (lA (lg ls i)) (lB (lg ls i)) (lA (lg ls k)) (lB (lg ls k))) (hs.all 0 _ J).1 Om) ?_
     rintro⟨g3,gc3⟩
     refine n9 ?_;refine JS 20 ?_;refine dK 19 ?_;refine JK Kr ?_;refine S7 ?_
     exact Ji hL2 ((k+1,g3,gc3)) ((show k+1≤i by omega)) (by simp only;omega) ⟨(by rw [OM c3];rfl),vi Om,sz⟩ (fun _ h=>h.upto ⟨by rw [OM c3],trivial⟩)
    ·refine S8 ?_
     exact Ji hL2 ((k+1,g,gc)) ((show k+1≤i by omega)) (by simp only;omega) ⟨(by rw [D5 c3];rfl),vi Om,sz⟩ (fun _ h=>h.upto ⟨by rw [D5 c3],trivial⟩)
  ·refine S11 ?_
   exact Ji hL1 ((i+1,g,gc)) ((show i+1≤n by omega)) (by simp only;omega) ⟨(by rw [show k=i by omega];rfl),vi Om,sz⟩ (fun _ h=>h.upto ⟨by rw [show k=i by omega];rfl,trivial⟩)
 ·refine S11 ?_;refine jM J (.tmp J) ?_
  intro w' hs
  have hr:=hs.all 0 _ rfl
  have hin:i=n:=by omega
  exact⟨_,rfl,by rw [←hin];exact vv hr.1 (fun b hb=> (hr.2.1 b hb).elim id (fun h=>by cases h)),hs.fin⟩
end Go.Proofs.YtpncbbcmoiiipaaGreat
