import Derived.Test.YtpncbbcmoiiipaaMSnapped
import Derived.Test.YtpncbbcmoiiipaaMSimp
set_option linter.unusedVariables false
set_option linter.unusedSimpArgs false
namespace Go.Proofs.Ytpncbbcmoiiipaa
open Go Go.RowKit
def Wb (p q:Pn) :Prop:=p.2<q.2∨(p.2=q.2∧p.1<q.1)
instance (p q:Pn) :Decidable (Wb p q) :=by unfold Wb;exact inferInstance
theorem W7 {p q r:Pn} (h:Wb p q) (h':Wb q r) :Wb p r:=by unfold Wb at*;omega
theorem KQ (p:Pn) :¬Wb p p:=by unfold Wb;omega
theorem XB (p q:Pn) :Wb p q∨p=q∨Wb q p:=by
 rcases p with⟨x,y⟩
 rcases q with⟨x',y'⟩
 simp only [Wb,Prod.mk.injEq]
 omega
def Asc (l:List Pn) :Prop:=l.Pairwise Wb
theorem Asc.head {p:Pn} {l:List Pn} (h:Asc (p::l)) :∀q∈l,Wb p q:= (Fn.1 h).1
theorem Asc.tail {p:Pn} {l:List Pn} (h:Asc (p::l)) :Asc l:= (Fn.1 h).2
theorem Xg:∀ {l m:List Pn},Asc l→Asc m→(∀p,p∈l↔p∈m)→l=m
 | [],[],_,_,_=>rfl
 | [],q::m,_,_,h=>absurd ((h q).2 (by simp)) (by simp)
 | p::l,[],_,_,h=>absurd ((h p).1 (by simp)) (by simp)
 | p::l,q::m,hl,hm,h=>by
  have e:p=q:=by
   rcases DZ.1 ((h p).1 (by simp)) with e | h1
   ·exact e
   ·rcases DZ.1 ((h q).2 (by simp)) with e | h2
    ·exact e.symm
    ·exact absurd (W7 (hl.head q h2) (hm.head p h1)) (KQ p)
  subst e
  congr 1
  refine Xg hl.tail hm.tail fun r=> ?_
  constructor
  ·intro hr
   rcases DZ.1 ((h r).1 (D2 _ hr)) with e | h1
   ·exact absurd (e▸hl.head r hr) (KQ _)
   ·exact h1
  ·intro hr
   rcases DZ.1 ((h r).2 (D2 _ hr)) with e | h1
   ·exact absurd (e▸hm.head r hr) (KQ _)
   ·exact h1
def vr (xs:List Pn) (p:Pn) :Nat→Nat
 | 0=>0
 | k+1=>if Wb p (pt xs k) then vr xs p k else k+1
theorem Ul (xs:List Pn) (p:Pn) :∀k,vr xs p k≤k
 | 0=>DM _
 | k+1=>by
  unfold vr
  split
  ·have:=Ul xs p k;omega
  ·exact DM _
theorem XJ (xs:List Pn) (p:Pn) :∀k j,vr xs p k≤j→j<k→Wb p (pt xs j)
 | 0,j,_,h=>absurd h Om
 | k+1,j,h,h'=>by
  unfold vr at h
  split at h
  ·rename_i hp
   by_cases e:j=k
   ·rw [e];exact hp
   ·exact XJ xs p k j h Om
  ·omega
theorem XI (xs:List Pn) (p:Pn) :∀k,0<vr xs p k→¬Wb p (pt xs (vr xs p k- 1))
 | 0,h=>absurd h (by simp [vr])
 | k+1,h=>by
  unfold vr at h⊢
  split at h
  ·rename_i hp
   rw [if_pos hp]
   exact XI xs p k h
  ·rename_i hp
   rw [if_neg hp]
   exact hp
def uZ (xs:List Pn) (p:Pn) :List Pn:=if 0<vr xs p xs.length∧pt xs (vr xs p xs.length- 1) =p then xs else xs.take (vr xs p xs.length) ++p::xs.drop (vr xs p xs.length)
theorem QK {xs:List Pn} {k:Nat} (h:k<xs.length) :xs[k] =pt xs k:=Vz h
theorem Lm {xs:List Pn} {p q:Pn} :q∈uZ xs p↔q∈xs∨q=p:=by
 unfold uZ
 split
 ·rename_i h
  have hle:=Ul xs p xs.length
  constructor
  ·exact .inl
  ·rintro(h1 | rfl)
   ·exact h1
   ·rw [←h.2,←QK Om]
    exact DR _
 ·have:=D1 (vr xs p xs.length) xs
  constructor
  ·intro h1
   rcases DV.1 h1 with h1 | h1
   ·exact .inl (FL h1)
   ·rcases DZ.1 h1 with h1 | h1
    ·exact .inr h1
    ·exact .inl (FK h1)
  ·rintro(h1 | h1)
   ·rw [←this] at h1
    rcases DV.1 h1 with h2 | h2
    ·exact DV.2 (.inl h2)
    ·exact DV.2 (.inr (D2 _ h2))
   ·rw [h1];simp
theorem Lj {xs:List Pn} {p:Pn} (h:Asc xs) :Asc (uZ xs p) :=by
 unfold uZ
 split
 ·exact h
 ·rename_i hn
  have hle:=Ul xs p xs.length
  have hs:=FZ.1 ((D1 (vr xs p xs.length) xs).symm▸h:Asc (xs.take (vr xs p xs.length) ++xs.drop (vr xs p xs.length)))
  refine FZ.2 ⟨hs.1,Fn.2 ⟨fun q hq=> ?_,hs.2.1⟩,fun a ha b hb=> ?_⟩
  ·obtain ⟨j,hj,rfl⟩ :=Fe hq
   rw [D5] at hj
   rw [List.getElem_drop,QK Om]
   exact XJ xs p xs.length _ Om Om
  ·rcases DZ.1 hb with e | hb
   ·subst e
    obtain ⟨j,hj,rfl⟩ :=Fe ha
    rw [Ff] at hj
    rw [List.getElem_take,QK Om]
    have hd:=XI xs b xs.length Om
    have h1:Wb (pt xs (vr xs b xs.length- 1)) b:=by
     rcases XB (pt xs (vr xs b xs.length- 1)) b with h1 | h1 | h1
     ·exact h1
     ·exact absurd ⟨by omega,h1⟩ hn
     ·exact absurd h1 hd
    by_cases e:j=vr xs b xs.length- 1
    ·rw [e];exact h1
    ·have:=FX.1 h j (vr xs b xs.length- 1) Om Om Om
     rw [QK Om,QK Om] at this
     exact W7 this h1
   ·exact hs.2.2 a ha b hb
def Kf (l:List Pn) :List Pn:=l.foldl uZ []
theorem yZ (l:List Pn) :∀xs,Asc xs→Asc (l.foldl uZ xs)∧∀q,q∈l.foldl uZ xs↔q∈xs∨q∈l:=by
 induction l with
 | nil=>intro xs h;exact⟨h,fun q=>by simp⟩
 | cons p l ih=>
  intro xs h
  obtain ⟨h1,h2⟩ :=ih (uZ xs p) (Lj h)
  refine⟨h1,fun q=> ?_⟩
  rw [FU,h2 q,Lm,DZ]
  constructor
  ·rintro((h | h) | h)
   ·exact .inl h
   ·exact .inr (.inl h)
   ·exact .inr (.inr h)
  ·rintro(h | h | h)
   ·exact .inl (.inl h)
   ·exact .inl (.inr h)
   ·exact .inr h
theorem wU (l:List Pn) :Asc (Kf l) := (yZ l [] List.Pairwise.nil).1
theorem KU (l:List Pn) (q:Pn) :q∈Kf l↔q∈l:=by rw [Kf,(yZ l [] List.Pairwise.nil).2 q];simp
def qj:List Pn→List Pn
 | [] => []
 | [p] => [p]
 | p::q::l=>if p=q then qj (q::l) else p::qj (q::l)
theorem V0:∀(l:List Pn) (r:Pn),r∈qj l↔r∈l
 | [],_=>Iff.rfl
 | [_],_=>Iff.rfl
 | p::q::l,r=>by
  unfold qj
  split
  ·rename_i e
   rw [V0 (q::l) r,e]
   simp
  ·rw [DZ,V0 (q::l) r]
   simp
def OZ (l:List Pn) :Prop:=l.Pairwise fun p q=>¬Wb q p
theorem yU:∀ {l:List Pn},OZ l→Asc (qj l)
 | [],_=>List.Pairwise.nil
 | [p],_=>List.pairwise_singleton _ _
 | p::q::l,h=>by
  have h1:=Fn.1 h
  have ih:=yU (l:=q::l) h1.2
  unfold qj
  split
  ·exact ih
  ·rename_i hne
   refine Fn.2 ⟨fun r hr=> ?_,ih⟩
   rw [V0] at hr
   have hpq:Wb p q:=by
    rcases XB p q with h2 | h2 | h2
    ·exact h2
    ·exact absurd h2 hne
    ·exact absurd h2 (h1.1 q (by simp))
   rcases DZ.1 hr with e | hr
   ·rw [e];exact hpq
   ·have h3:= (Fn.1 h1.2).1 r hr
    unfold Wb at*
    omega
theorem Hr {l m:List Pn} (hs:OZ m) (hp:∀q,q∈m↔q∈l) :qj m=Kf l:=
 Xg (yU hs) (wU l) fun q=>by rw [V0,hp,KU]
theorem xV (x:Int) :0≤x*x:=by
 rcases Int.le_total 0 x with h | h
 ·exact DU h h
 ·have:=DU (show 0≤-x by omega) (show 0≤-x by omega)
  grind
def Hu (a b c d:Pn) :Int:=wz a.1 a.2 b.1 b.2 c.1 c.2 d.1 d.2
def M7 (a c d:Pn) :Int:=uD a.1 a.2 c.1 c.2 d.1 d.2
def Xn (a b c d:Pn) :Pn:= (yX a.1 b.1 (M7 a c d) (Hu a b c d),yX a.2 b.2 (M7 a c d) (Hu a b c d))
theorem UI (a b c d:Pn) :Hu a b c d=tn c d a- tn c d b:=by
 unfold Hu wz tn QX
 grind
theorem WZ (a c d:Pn) :M7 a c d=tn c d a:=by
 unfold M7 uD tn QX
 grind
theorem KZ {a b c d:Pn} (h:J4 a b c d=true) :Hu a b c d≠0:=by
 rw [UI]
 simp only [J4,DL,decide_eq_true_eq] at h
 intro e
 have e':tn c d a=tn c d b:=by omega
 rw [e'] at h
 have:=xV (KN (tn c d b))
 omega
theorem MW {a b c d:Pn} (h:Qx a b c d=2) : (QW a b c d).length=0∧Hu a b c d≠0:=by
 unfold Qx at h
 split at h
 ·rename_i h0
  split at h
  ·rename_i h1;exact⟨h0,KZ h1⟩
  ·omega
 ·split at h<;>omega
def Z1 (p:Pn) :Prop:= (-1152921504606846976≤p.1∧p.1≤1152921504606846976)∧-1152921504606846976≤p.2∧p.2≤1152921504606846976
theorem bd2.wide {p:Pn} (h:bd2 p) :Z1 p:=by
 obtain ⟨⟨h1,h2⟩,h3,h4⟩ :=h
 exact⟨⟨by omega,by omega⟩,by omega,by omega⟩
theorem Hv {x y n d:Int} (hx: -262144≤x∧x≤262144) (hy: -262144≤y∧y≤262144) (hn: -549755813888≤n∧n≤549755813888) (hd:d≠0) : -1152921504606846976≤yX x y n d∧yX x y n d≤1152921504606846976:=by
 rw [M9 _ _ _ _ hd]
 split
 ·have h1:=Qk (a:=y- x) (b:= -n) (A:=524288) (B:=549755813888) Om Om Om Om
  have h2:=Lv ((y- x) * -n) (-d) 288230376151711744 Om Om Om
  omega
 ·have h1:=Qk (a:=y- x) (b:=n) (A:=524288) (B:=549755813888) Om Om Om Om
  have h2:=Lv ((y- x) *n) d 288230376151711744 Om Om Om
  omega
theorem OQ {a b c:Pn} (ha:bd2 a) (hb:bd2 b) (hc:bd2 c) : -549755813888≤tn a b c∧tn a b c≤549755813888:=by
 obtain ⟨⟨a1,a2⟩,a3,a4⟩ :=ha
 obtain ⟨⟨b1,b2⟩,b3,b4⟩ :=hb
 obtain ⟨⟨c1,c2⟩,c3,c4⟩ :=hc
 exact OS _ _ _ _ _ _ a1 a2 a3 a4 b1 b2 b3 b4 c1 c2 c3 c4
theorem M8 {a b c d:Pn} (ha:bd2 a) (hb:bd2 b) (hc:bd2 c) (hd:bd2 d) (h:Hu a b c d≠0) :Z1 (Xn a b c d) :=by
 have hn:=OQ hc hd ha
 rw [←WZ] at hn
 exact⟨Hv ha.1 hb.1 hn h,Hv ha.2 hb.2 hn h⟩
theorem kE {p:Pn} (h:bd2 p) :KD p.1 p.2=true:=by
 obtain ⟨⟨h1,h2⟩,h3,h4⟩ :=h
 simp [KD,wB, *]
theorem Z4 (a b c d:Pn) (w:World) (ha:bd2 a) (hb:bd2 b) (hc:bd2 c) (hd:bd2 d) (h:Hu a b c d≠0) :Calls Try.prog 33 #[pV a,pV b,pV c,pV d] w fun e w'=>e= .returned (pV (Xn a b c d))∧Over w w':=
 YK a.1 a.2 b.1 b.2 c.1 c.2 d.1 d.2 w (kE ha) (kE hb) (kE hc) (kE hd) h
section
variable {P:Program} {n:Nat} {env:List (Nat×Value)} {w0:Bs} {Rs:List Res} {ops:Array Oper} {Q:Exit→Act→World→Prop} {K:Act→World→Prop} {o:Oper}
theorem JT {f k d:Nat} (hfn:FnOk P f) {xs:List Operand} {vs:List Value} {ts:Array TypeId} {X:Type} {v:X→Value} {r:Res} {r':X→Res} (ho:o.op= .call {callee:= .value (.func f),args:=xs.toArray,argTypes:=ts}) (hx:ZS env xs=some vs) (hd:o.dst=some d) (hn:d<n)
  (hk:Rs[k]? =some r) (hc:∀w,St w0 Rs w→Calls P f vs.toArray w fun e w'=>∃x,e= .returned (v x)∧Wrs r.F w w'∧(r' x).P w'∧(∀b,(r' x).F b→r.F b∨w.heap.size≤b)∧(r' x).B=0)
  (h:∀x,At n ((d,v x) ::env) w0 (Rs.set k (r' x)) K) :At n env w0 Rs (fun a w=>o.wp P a w K Q) :=fun a w hF' hs=>by
 show o.upon P a K Q ((execOp a.eval o).run P w)
 rw [VV hfn ho hx hF']
 refine Calls.mono (hc w hs) ?_
 rintro e w' ⟨x,rfl,hw,hp,hF,hB⟩
 have hlow:= (hs.all k _ hk).2.1
 show K (a.put o.dst (v x)) w'
 rw [hd]
 refine h x _ _ (hF'.put hn _) (hs.upd hk ⟨hw.os.trans hs.over.os,hw.tape.trans hs.over.tape,hw.output.trans hs.over.output,FE hs.over.size hw.size,fun c hc' hx'=> ?_⟩ hw.size (fun c hc' hne=>hw.block c hc' hne) hp (fun c hc'=>hF c hc') hB)
 rw [hw.block c (DS hc' hs.over.size) (fun e=> (hlow c e).elim (fun h1=>by omega) (fun h1=>hx' h1))]
 exact hs.over.block c hc' hx'
end
theorem Gg {n:Nat} {env:List (Nat×Value)} {w0:Bs} {Rs:List Res} {K:Act→World→Prop} (h:∀w1,St w0 Rs w1→At n env ⟨w1,[]⟩ [] K) :At n env w0 Rs K:=fun a w hf hs=>h w hs a w hf (St.start w)
def cz (ls:List Leg) (i:Nat) :Nat→List Pn
 | 0=> []
 | k+1=>cz ls i k++ (if Qx (lA (lg ls i)) (lB (lg ls i)) (lA (lg ls k)) (lB (lg ls k)) =2 then [Xn (lA (lg ls i)) (lB (lg ls i)) (lA (lg ls k)) (lB (lg ls k))] else [])
def VJ (ls:List Leg) :Nat→List Pn
 | 0=> []
 | i+1=>VJ ls i++ [lA (lg ls i),lB (lg ls i)] ++cz ls i i
theorem Z6 (ls:List Leg) (i:Nat) :∀k,(cz ls i k).length≤k
 | 0=>DM _
 | k+1=>by
  have:=Z6 ls i k
  unfold cz
  rw [DK]
  split<;>simp<;>omega
theorem Ws (ls:List Leg) :∀i,(VJ ls i).length≤i* (i+2)
 | 0=>DM _
 | i+1=>by
  have h1:=Ws ls i
  have h2:=Z6 ls i i
  unfold VJ
  rw [DK,DK]
  simp only [DT,D8]
  have e: (i+1) * (i+1+2) =i* (i+2) +2*i+3:=by simp only [Nat.add_mul,Nat.mul_add];omega
  omega
def WH (ls:List Leg) (i k:Nat) :List Pn:=VJ ls i++ [lA (lg ls i),lB (lg ls i)] ++cz ls i k
theorem Mx {ls:List Leg} {i k:Nat} (hi:i<400) (hk:k≤i) : (WH ls i k).length≤170000:=by
 have h1:=Ws ls i
 have h2:=Z6 ls i k
 have h3:i* (i+2)≤400*402:=FW Om Om
 unfold WH
 rw [DK,DK]
 simp only [DT,D8]
 omega
theorem Ll (xs:List Pn) (p:Pn) : (uZ xs p).length≤xs.length+1:=by
 have:=Ul xs p xs.length
 unfold uZ
 split
 ·omega
 ·rw [DK,DT,Ff,D5];omega
theorem Gr (l:List Pn) :∀xs,(l.foldl uZ xs).length≤xs.length+l.length:=by
 induction l with
 | nil=>intro xs;exact DM _
 | cons p l ih=>
  intro xs
  have h1:=ih (uZ xs p)
  have h2:=Ll xs p
  rw [FU,DT]
  omega
theorem xG (l:List Pn) : (Kf l).length≤l.length:=by have:=Gr l [];simpa [Kf] using this
theorem Zy {w:World} {B N T s n:Nat} {v:Value} {xs:List Value} (h:w.ownsRow B T s v n xs) (hN:∀b,v.ownBlock=some b→N≤b) :w.ownsRow N T s v n xs:=by
 refine⟨h.1,?_⟩
 rcases h.2 with e |⟨g,cap,cur,rfl,hb,rest⟩
 ·exact .inl e
 ·exact .inr ⟨g,cap,cur,rfl,hN g rfl,rest⟩
end Go.Proofs.Ytpncbbcmoiiipaa
