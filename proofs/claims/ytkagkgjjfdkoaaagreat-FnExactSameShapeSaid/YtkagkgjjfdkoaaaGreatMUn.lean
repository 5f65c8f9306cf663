import Derived.Test.YtkagkgjjfdkoaaaGreatMCmbS
import Derived.Test.YtkagkgjjfdkoaaaGreatMCmbLaw
set_option linter.unusedVariables false
set_option linter.unusedSimpArgs false
namespace Go.Proofs.YtkagkgjjfdkoaaaGreat
open Go Go.RowKit
set_option maxRecDepth 100000
set_option maxHeartbeats 4000000
theorem wG (A:Option Addr) (n c:Nat) (rs:List jS) (A2:Option Addr) (n2 c2_:Nat) (ss:List jS) (w:World) (h:Rings w A n rs) (hm: (n:Int)≤9223372036854775807) (h2:Rings w A2 n2 ss) (hm2: (n2:Int)≤9223372036854775807) :
  Calls Tryz.prog 26 #[Ju A n c,Ju A2 n2 c2_] w fun e w'=>∃A' c',e= .returned (.tuple #[Ju A' (qD rs ss 1).length c', .int .i64 (wT rs ss 1)])∧OwnG w.heap.size w'.heap.size w' A' (qD rs ss 1).length (qD rs ss 1)∧Over w w':=by
 refine jU (m:=11) (Tryz.func26) J J (lb J) ?_;refine S3 ?_;refine aX (fun b1=> ?_);refine N1 ?_;refine aX (fun b2=> ?_);refine N1 ?_;refine aL (fun b3=> ?_);refine N7 ?_;refine jP qK (X:= (Option Addr×Nat)×Nat×Nat) (v:=fun x=> .tuple #[Ju x.1.1 (qD rs ss 1).length x.1.2, .int .i64 (wT rs ss 1)]) (r:=fun x=>JD (qD rs ss 1).length (qD rs ss 1) x.2.1 x.2.2 x.1.1) (H:=fun _=>True) J J J (lb J) (fun w1 hs=>Qm (V:=fun A' c'=> .tuple #[Ju A' (qD rs ss 1).length c', .int .i64 (wT rs ss 1)]) (Qs A n c rs A2 n2 c2_ ss 1 w1 (h.over hs.fin) hm (h2.over hs.fin) hm2)) ?_
 rintro⟨⟨oA,oc⟩,olo,ohi⟩ -
 refine N7 ?_;refine J6 J (J3 (k:=2) J jn J J) (.tmp J) ?_
 intro w' hs
 have hg:=hs.all 3 _ rfl
 have ho:=wn hg.1 (fun b hb=> (hg.2.1 b hb).elim id (fun h=>by cases h))
 exact⟨oA,oc,rfl,ho,hs.fin⟩
theorem wi (A:Option Addr) (n c:Nat) (rs:List jS) (A2:Option Addr) (n2 c2_:Nat) (ss:List jS) (w:World) (h:Rings w A n rs) (hm: (n:Int)≤9223372036854775807) (h2:Rings w A2 n2 ss) (hm2: (n2:Int)≤9223372036854775807) :
  Calls Tryz.prog 25 #[Ju A n c,Ju A2 n2 c2_] w fun e w'=>∃A' c',e= .returned (.tuple #[Ju A' (qD rs ss 1).length c', .int .i64 (wT rs ss 1)])∧OwnG w.heap.size w'.heap.size w' A' (qD rs ss 1).length (qD rs ss 1)∧Over w w':=by
 refine jU (m:=11) (Tryz.func25) J J (lb J) ?_;refine S3 ?_;refine aX (fun b1=> ?_);refine N1 ?_;refine aX (fun b2=> ?_);refine N1 ?_;refine aL (fun b3=> ?_);refine N7 ?_;refine jP Qb (X:= (Option Addr×Nat)×Nat×Nat) (v:=fun x=> .tuple #[Ju x.1.1 (qD rs ss 1).length x.1.2, .int .i64 (wT rs ss 1)]) (r:=fun x=>JD (qD rs ss 1).length (qD rs ss 1) x.2.1 x.2.2 x.1.1) (H:=fun _=>True) J J J (lb J) (fun w1 hs=>Qm (V:=fun A' c'=> .tuple #[Ju A' (qD rs ss 1).length c', .int .i64 (wT rs ss 1)]) (Qd A n c rs A2 n2 c2_ ss 1 w1 (h.over hs.fin) hm (h2.over hs.fin) hm2)) ?_
 rintro⟨⟨oA,oc⟩,olo,ohi⟩ -
 refine N7 ?_;refine J6 J (J3 (k:=2) J jn J J) (.tmp J) ?_
 intro w' hs
 have hg:=hs.all 3 _ rfl
 have ho:=wn hg.1 (fun b hb=> (hg.2.1 b hb).elim id (fun h=>by cases h))
 exact⟨oA,oc,rfl,ho,hs.fin⟩
theorem uB (A:Option Addr) (n c:Nat) (rs:List jS) (A2:Option Addr) (n2 c2_:Nat) (ss:List jS) (w:World) (h:Rings w A n rs) (hm: (n:Int)≤9223372036854775807) (h2:Rings w A2 n2 ss) (hm2: (n2:Int)≤9223372036854775807) :
  Calls Tryz.prog 22 #[Ju A n c,Ju A2 n2 c2_] w fun e w'=>∃A' c',e= .returned (.tuple #[Ju A' (qD rs ss 2).length c', .int .i64 (wT rs ss 2)])∧OwnG w.heap.size w'.heap.size w' A' (qD rs ss 2).length (qD rs ss 2)∧Over w w':=by
 refine jU (m:=11) (Tryz.func22) J J (lb J) ?_;refine S3 ?_;refine aX (fun b1=> ?_);refine N1 ?_;refine aX (fun b2=> ?_);refine N1 ?_;refine aL (fun b3=> ?_);refine N7 ?_;refine jP qK (X:= (Option Addr×Nat)×Nat×Nat) (v:=fun x=> .tuple #[Ju x.1.1 (qD rs ss 2).length x.1.2, .int .i64 (wT rs ss 2)]) (r:=fun x=>JD (qD rs ss 2).length (qD rs ss 2) x.2.1 x.2.2 x.1.1) (H:=fun _=>True) J J J (lb J) (fun w1 hs=>Qm (V:=fun A' c'=> .tuple #[Ju A' (qD rs ss 2).length c', .int .i64 (wT rs ss 2)]) (Qs A n c rs A2 n2 c2_ ss 2 w1 (h.over hs.fin) hm (h2.over hs.fin) hm2)) ?_
 rintro⟨⟨oA,oc⟩,olo,ohi⟩ -
 refine N7 ?_;refine J6 J (J3 (k:=2) J jn J J) (.tmp J) ?_
 intro w' hs
 have hg:=hs.all 3 _ rfl
 have ho:=wn hg.1 (fun b hb=> (hg.2.1 b hb).elim id (fun h=>by cases h))
 exact⟨oA,oc,rfl,ho,hs.fin⟩
theorem Wi (A:Option Addr) (n c:Nat) (rs:List jS) (A2:Option Addr) (n2 c2_:Nat) (ss:List jS) (w:World) (h:Rings w A n rs) (hm: (n:Int)≤9223372036854775807) (h2:Rings w A2 n2 ss) (hm2: (n2:Int)≤9223372036854775807) :
  Calls Tryz.prog 21 #[Ju A n c,Ju A2 n2 c2_] w fun e w'=>∃A' c',e= .returned (.tuple #[Ju A' (qD rs ss 2).length c', .int .i64 (wT rs ss 2)])∧OwnG w.heap.size w'.heap.size w' A' (qD rs ss 2).length (qD rs ss 2)∧Over w w':=by
 refine jU (m:=11) (Tryz.func21) J J (lb J) ?_;refine S3 ?_;refine aX (fun b1=> ?_);refine N1 ?_;refine aX (fun b2=> ?_);refine N1 ?_;refine aL (fun b3=> ?_);refine N7 ?_;refine jP Qb (X:= (Option Addr×Nat)×Nat×Nat) (v:=fun x=> .tuple #[Ju x.1.1 (qD rs ss 2).length x.1.2, .int .i64 (wT rs ss 2)]) (r:=fun x=>JD (qD rs ss 2).length (qD rs ss 2) x.2.1 x.2.2 x.1.1) (H:=fun _=>True) J J J (lb J) (fun w1 hs=>Qm (V:=fun A' c'=> .tuple #[Ju A' (qD rs ss 2).length c', .int .i64 (wT rs ss 2)]) (Qd A n c rs A2 n2 c2_ ss 2 w1 (h.over hs.fin) hm (h2.over hs.fin) hm2)) ?_
 rintro⟨⟨oA,oc⟩,olo,ohi⟩ -
 refine N7 ?_;refine J6 J (J3 (k:=2) J jn J J) (.tmp J) ?_
 intro w' hs
 have hg:=hs.all 3 _ rfl
 have ho:=wn hg.1 (fun b hb=> (hg.2.1 b hb).elim id (fun h=>by cases h))
 exact⟨oA,oc,rfl,ho,hs.fin⟩
theorem WQ (A:Option Addr) (n c:Nat) (rs:List jS) (A2:Option Addr) (n2 c2_:Nat) (ss:List jS) (w:World) (h:Rings w A n rs) (hm: (n:Int)≤9223372036854775807) (h2:Rings w A2 n2 ss) (hm2: (n2:Int)≤9223372036854775807) :
  Calls Tryz.prog 24 #[Ju A n c,Ju A2 n2 c2_] w fun e w'=>∃A' c',e= .returned (.tuple #[Ju A' (qD rs ss 3).length c', .int .i64 (wT rs ss 3)])∧OwnG w.heap.size w'.heap.size w' A' (qD rs ss 3).length (qD rs ss 3)∧Over w w':=by
 refine jU (m:=11) (Tryz.func24) J J (lb J) ?_;refine S3 ?_;refine aX (fun b1=> ?_);refine N1 ?_;refine aX (fun b2=> ?_);refine N1 ?_;refine aL (fun b3=> ?_);refine N7 ?_;refine jP qK (X:= (Option Addr×Nat)×Nat×Nat) (v:=fun x=> .tuple #[Ju x.1.1 (qD rs ss 3).length x.1.2, .int .i64 (wT rs ss 3)]) (r:=fun x=>JD (qD rs ss 3).length (qD rs ss 3) x.2.1 x.2.2 x.1.1) (H:=fun _=>True) J J J (lb J) (fun w1 hs=>Qm (V:=fun A' c'=> .tuple #[Ju A' (qD rs ss 3).length c', .int .i64 (wT rs ss 3)]) (Qs A n c rs A2 n2 c2_ ss 3 w1 (h.over hs.fin) hm (h2.over hs.fin) hm2)) ?_
 rintro⟨⟨oA,oc⟩,olo,ohi⟩ -
 refine N7 ?_;refine J6 J (J3 (k:=2) J jn J J) (.tmp J) ?_
 intro w' hs
 have hg:=hs.all 3 _ rfl
 have ho:=wn hg.1 (fun b hb=> (hg.2.1 b hb).elim id (fun h=>by cases h))
 exact⟨oA,oc,rfl,ho,hs.fin⟩
theorem wh (A:Option Addr) (n c:Nat) (rs:List jS) (A2:Option Addr) (n2 c2_:Nat) (ss:List jS) (w:World) (h:Rings w A n rs) (hm: (n:Int)≤9223372036854775807) (h2:Rings w A2 n2 ss) (hm2: (n2:Int)≤9223372036854775807) :
  Calls Tryz.prog 23 #[Ju A n c,Ju A2 n2 c2_] w fun e w'=>∃A' c',e= .returned (.tuple #[Ju A' (qD rs ss 3).length c', .int .i64 (wT rs ss 3)])∧OwnG w.heap.size w'.heap.size w' A' (qD rs ss 3).length (qD rs ss 3)∧Over w w':=by
 refine jU (m:=11) (Tryz.func23) J J (lb J) ?_;refine S3 ?_;refine aX (fun b1=> ?_);refine N1 ?_;refine aX (fun b2=> ?_);refine N1 ?_;refine aL (fun b3=> ?_);refine N7 ?_;refine jP Qb (X:= (Option Addr×Nat)×Nat×Nat) (v:=fun x=> .tuple #[Ju x.1.1 (qD rs ss 3).length x.1.2, .int .i64 (wT rs ss 3)]) (r:=fun x=>JD (qD rs ss 3).length (qD rs ss 3) x.2.1 x.2.2 x.1.1) (H:=fun _=>True) J J J (lb J) (fun w1 hs=>Qm (V:=fun A' c'=> .tuple #[Ju A' (qD rs ss 3).length c', .int .i64 (wT rs ss 3)]) (Qd A n c rs A2 n2 c2_ ss 3 w1 (h.over hs.fin) hm (h2.over hs.fin) hm2)) ?_
 rintro⟨⟨oA,oc⟩,olo,ohi⟩ -
 refine N7 ?_;refine J6 J (J3 (k:=2) J jn J J) (.tmp J) ?_
 intro w' hs
 have hg:=hs.all 3 _ rfl
 have ho:=wn hg.1 (fun b hb=> (hg.2.1 b hb).elim id (fun h=>by cases h))
 exact⟨oA,oc,rfl,ho,hs.fin⟩
theorem jal (w:World) :Rings w none 0 [] :=⟨rfl,fun h=>absurd h (by decide)⟩
theorem jc0 {rs:List jS} (h:JO rs=true) :qD rs [] 1=Ob rs [] 1∧wT rs [] 1=NS rs [] 1:=CG (by rw [wm,h];rfl) rfl
theorem TP {n:Nat} {rs:List jS} (hl:rs.length=n) (ht: (total rs:Int)≤1048576) : (n:Int)≤9223372036854775807:=by
 unfold total at ht
 omega
theorem KM (A:Option Addr) (n c:Nat) (rs:List jS) (w:World) (h:Rings w A n rs) (ht: (total rs:Int)≤1048576) :
  Calls Tryz.prog 16 #[Ju A n c] w fun e w'=>∃A' c',e= .returned (.tuple #[Ju A' (qD rs [] 1).length c', .int .i64 (wT rs [] 1)])∧OwnG w.heap.size w'.heap.size w' A' (qD rs [] 1).length (qD rs [] 1)∧Over w w':=by
 refine jU (m:=9) (Tryz.func16) J J (lb J) ?_;refine S3 ?_;refine aX (fun b1=> ?_);refine N1 ?_;refine aL (fun b2=> ?_);refine N5 ?_;refine a9 (JV J J (qf)) ?_;refine S1 ?_;refine jP KI (X:= (Option Addr×Nat)×Nat×Nat) (v:=fun x=> .tuple #[Ju x.1.1 (qD rs [] 1).length x.1.2, .int .i64 (wT rs [] 1)]) (r:=fun x=>JD (qD rs [] 1).length (qD rs [] 1) x.2.1 x.2.2 x.1.1) (H:=fun _=>True) J J J (lb J) (fun w1 hs=>Qm (V:=fun A' c'=> .tuple #[Ju A' (qD rs [] 1).length c', .int .i64 (wT rs [] 1)]) (wG A n c rs none 0 0 [] w1 (h.over hs.fin) (TP h.1 ht) (jal w1) (by decide))) ?_
 rintro⟨⟨oA,oc⟩,olo,ohi⟩ -
 refine N7 ?_;refine J6 J (J3 (k:=1) J jn J J) (.tmp J) ?_
 intro w' hs
 have hg:=hs.all 2 _ rfl
 have ho:=wn hg.1 (fun b hb=> (hg.2.1 b hb).elim id (fun h=>by cases h))
 exact⟨oA,oc,rfl,ho,hs.fin⟩
theorem KB (A:Option Addr) (n c:Nat) (rs:List jS) (w:World) (h:Rings w A n rs) (ht: (total rs:Int)≤1048576) :
  Calls Tryz.prog 15 #[Ju A n c] w fun e w'=>∃A' c',e= .returned (.tuple #[Ju A' (qD rs [] 1).length c', .int .i64 (wT rs [] 1)])∧OwnG w.heap.size w'.heap.size w' A' (qD rs [] 1).length (qD rs [] 1)∧Over w w':=by
 refine jU (m:=12) (Tryz.func15) J J (lb J) ?_;refine S3 ?_;refine aX (fun b1=> ?_);refine N1 ?_;refine aL (fun b2=> ?_);refine N5 ?_;refine a9 (jH KW J J (fun w1 hs=>WF _ _ A n c rs w1 (qo (k:=0) J J w1 hs) (JQ (hs.cel (k:=0) J)) (h.over hs.fin) (TP h.1 ht))) ?_;refine S2 ?_;refine cZ (fun c1=> ?_) (fun c1=> ?_)
 ·refine S2 ?_;refine a9 (JV J J (qf)) ?_;refine S6 ?_;refine J6 J (J3 (k:=1) J jn J J) (.tmp J) ?_
  intro w' hs
  obtain ⟨e1,e2⟩ :=RL (ss:= []) (how:=1) (rs:=rs) (by rw [wm];simp [c1])
  exact⟨none,0,by rw [e1,e2];rfl,by rw [e1];exact OwnG.nil none,hs.fin⟩
 ·have hr:JO rs=true:= (by simpa using c1)
  obtain ⟨e1,e2⟩ :=jc0 hr
  rw [e1,e2]
  refine S4 ?_;refine a9 (JV J J (qf)) ?_;refine S1 ?_;refine aX (fun b3=> ?_);refine N1 ?_;refine jP uS (X:= (Option Addr×Nat)×Nat×Nat) (v:=fun x=> .tuple #[Ju x.1.1 (Ob rs [] 1).length x.1.2, .int .i64 (NS rs [] 1)]) (r:=fun x=>JD (Ob rs [] 1).length (Ob rs [] 1) x.2.1 x.2.2 x.1.1) (H:=fun _=>True) J J J (lb J) (fun w1 hs=>Qm (V:=fun A' c'=> .tuple #[Ju A' (Ob rs [] 1).length c', .int .i64 (NS rs [] 1)]) (YH _ _ _ _ A n c rs none 0 0 [] 1 w1 (qo (k:=0) J J w1 hs) (JQ (hs.cel (k:=0) J)) (qo (k:=2) J J w1 hs) (JQ (hs.cel (k:=2) J)) (h.over hs.fin) (jal w1) hr J)) ?_
  rintro⟨⟨oA,oc⟩,olo,ohi⟩ -
  refine N7 ?_;refine J6 J (J3 (k:=1) J jn J J) (.tmp J) ?_
  intro w' hs
  have hg:=hs.all 3 _ rfl
  have ho:=wn hg.1 (fun b hb=> (hg.2.1 b hb).elim id (fun h=>by cases h))
  exact⟨oA,oc,rfl,ho,hs.fin⟩
def clB (rs:List jS) :Bool:=wT rs [] 1==0&&decide (qD rs [] 1=rs)
theorem jc1 (rs:List jS) (how:Int) {ss:List jS} : ((qD rs ss how).length:Int)≤1048576:=by
 have:= (WB rs ss how).total
 unfold total at this
 omega
theorem B6 {rs ss:List jS} {how:Int} (h:wT rs ss how=0) :JO (qD rs ss how) =true:=by
 unfold wT at h
 unfold qD
 split at h
 ·rename_i h1
  rw [if_pos h1]
  split at h
  ·rename_i h2
   rw [if_pos h2]
   unfold NS at h
   unfold Ob
   split at h
   ·rename_i h3
    rw [if_pos h3]
    unfold Hi at h
    unfold XL
    split at h
    ·rename_i h4;rw [if_pos h4];exact h4
    ·cases h
   ·cases h
  ·cases h
 ·cases h
theorem Fz (A:Option Addr) (n c:Nat) (rs:List jS) (w:World) (h:Rings w A n rs) (ht: (total rs:Int)≤1048576) :
  Calls Tryz.prog 13 #[Ju A n c] w fun e w'=>e= .returned (.bool (clB rs))∧Over w w':=by
 have hl:=h.1
 have hm: (n:Int)≤9223372036854775807:=by unfold total at ht;omega
 refine jU (m:=17) (Tryz.func13) J J (lb J) ?_;refine S3 ?_;refine aX (fun b1=> ?_);refine N6 ?_;refine jP kk (X:= (Option Addr×Nat)×Nat×Nat) (v:=fun x=> .tuple #[Ju x.1.1 (qD rs [] 1).length x.1.2, .int .i64 (wT rs [] 1)]) (r:=fun x=>JD (qD rs [] 1).length (qD rs [] 1) x.2.1 x.2.2 x.1.1) (H:=fun _=>True) J J J (lb J) (fun w1 hs=>Qm (V:=fun A' c'=> .tuple #[Ju A' (qD rs [] 1).length c', .int .i64 (wT rs [] 1)]) (KM A n c rs w1 (h.over hs.fin) ht)) ?_
 rintro⟨⟨oA,oc⟩,olo,ohi⟩ -
 refine N4 ?_;refine aL (fun b2=> ?_);refine N9 ?_;refine cV 12 (fun g1=> ?_) (fun g1=> ?_)
 ·refine S5 ?_;refine o9 (jH wv J J (fun w1 hs=>uC _ A _ n _ c (qD rs [] 1) rs w1 (Vy (hs.all 1 _ J).1).rings (h.over hs.fin) (jf8 (jc1 rs 1) (by decide)))) ?_;refine S4 ?_;refine jL J (.tmp J) ?_
  intro w' hs
  exact⟨QJ (by simp [clB,g1]),hs.fin⟩
 ·refine S7 ?_;refine jL J (.tmp J) ?_
  intro w' hs
  exact⟨QJ (by simp [clB,g1]),hs.fin⟩
theorem HG (A:Option Addr) (n c:Nat) (rs:List jS) (w:World) (h:Rings w A n rs) (ht: (total rs:Int)≤1048576) :
  Calls Tryz.prog 11 #[Ju A n c] w fun e w'=>e= .returned (.bool (clB rs))∧Over w w':=by
 have hl:=h.1
 have hm: (n:Int)≤9223372036854775807:=by unfold total at ht;omega
 refine jU (m:=17) (Tryz.func11) J J (lb J) ?_;refine S3 ?_;refine aX (fun b1=> ?_);refine N6 ?_;refine jP KA (X:= (Option Addr×Nat)×Nat×Nat) (v:=fun x=> .tuple #[Ju x.1.1 (qD rs [] 1).length x.1.2, .int .i64 (wT rs [] 1)]) (r:=fun x=>JD (qD rs [] 1).length (qD rs [] 1) x.2.1 x.2.2 x.1.1) (H:=fun _=>True) J J J (lb J) (fun w1 hs=>Qm (V:=fun A' c'=> .tuple #[Ju A' (qD rs [] 1).length c', .int .i64 (wT rs [] 1)]) (KB A n c rs w1 (h.over hs.fin) ht)) ?_
 rintro⟨⟨oA,oc⟩,olo,ohi⟩ -
 refine N4 ?_;refine aL (fun b2=> ?_);refine N9 ?_;refine cV 12 (fun g1=> ?_) (fun g1=> ?_)
 ·refine S5 ?_;refine o9 (jH wy J J (fun w1 hs=>wD _ A _ n _ c (qD rs [] 1) rs w1 (Vy (hs.all 1 _ J).1).rings (h.over hs.fin) (WB rs [] 1).total ht)) ?_;refine S4 ?_;refine jL J (.tmp J) ?_
  intro w' hs
  exact⟨QJ (by simp [clB,g1]),hs.fin⟩
 ·refine S7 ?_;refine jL J (.tmp J) ?_
  intro w' hs
  exact⟨QJ (by simp [clB,g1]),hs.fin⟩
def Xg (rs ss:List jS) :Bool:=wT rs [] 1==0&&wT ss [] 1==0
def shV (rs ss:List jS) :Bool:=wm rs ss&&Xg rs ss&&decide (vX (qD rs [] 1) =vX (qD ss [] 1))
def shC (rs ss:List jS) :Int:=if wm rs ss=true then(if Xg rs ss=true then 0 else 5) else 1
theorem Rw {rs:List jS} (h:smallR (vX rs)) : ((vX rs).length:Int)≤9223372036854775807:=by
 have:=h.total
 unfold total at this
 omega
theorem M6 (A:Option Addr) (n c:Nat) (rs:List jS) (A2:Option Addr) (n2 c2_:Nat) (ss:List jS) (w:World) (h:Rings w A n rs) (h2:Rings w A2 n2 ss) (ht: (total rs:Int)≤1048576) (ht2: (total ss:Int)≤1048576) :
  Calls Tryz.prog 28 #[Ju A n c,Ju A2 n2 c2_] w fun e w'=>e= .returned (.tuple #[.bool (shV rs ss), .int .i64 (shC rs ss)])∧Over w w':=by
 have hl:=h.1
 have hl2:=h2.1
 have hm: (n:Int)≤9223372036854775807:=by unfold total at ht;omega
 have hm2: (n2:Int)≤9223372036854775807:=by unfold total at ht2;omega
 refine jU (m:=37) (Tryz.func28) J J (lb J) ?_;refine S3 ?_;refine aX (fun b1=> ?_);refine N1 ?_;refine aX (fun b2=> ?_);refine N4 ?_;refine qd [(15, .bool (!wm rs ss))] (kK [2,3,4,5]) (fun L h_1=> ?_) ?_
 ·refine S2 ?_;refine a9 (jH ka J J (fun w1 hs=>KG A n c rs w1 (h.over hs.fin) hm)) ?_;refine S2 ?_;refine cV 11 (fun g1=> ?_) (fun g1=> ?_)
  ·refine S5 ?_
   exact Jb h_1 ⟨vb (by rw [wm,g1];rfl),sz⟩ (u9 J)
  ·refine S3 ?_;refine o9 (jH ka J J (fun w1 hs=>KG A2 n2 c2_ ss w1 (h2.over hs.fin) hm2)) ?_;refine S4 ?_
   exact Jb h_1 ⟨vb (by rw [wm,g1];rfl),sz⟩ (u9 J)
 ·refine v9 ?_;refine cZ (fun c1=> ?_) (fun c1=> ?_)
  ·refine S7 ?_;refine J6 J (.tmp J) (.tmp J) ?_
   intro w' hs
   have hin:wm rs ss=false:= (by simpa using c1)
   exact⟨by simp [shV,shC,hin],hs.fin⟩
  ·have hin:wm rs ss=true:= (by simpa using c1)
   refine S6 ?_;refine jP kk (X:= (Option Addr×Nat)×Nat×Nat) (v:=fun x=> .tuple #[Ju x.1.1 (qD rs [] 1).length x.1.2, .int .i64 (wT rs [] 1)]) (r:=fun x=>JD (qD rs [] 1).length (qD rs [] 1) x.2.1 x.2.2 x.1.1) (H:=fun _=>True) J J J (lb J) (fun w1 hs=>Qm (V:=fun A' c'=> .tuple #[Ju A' (qD rs [] 1).length c', .int .i64 (wT rs [] 1)]) (KM A n c rs w1 (h.over hs.fin) ht)) ?_
   rintro⟨⟨oA,oc⟩,olo,ohi⟩ -
   refine N11 ?_;refine jP kk (X:= (Option Addr×Nat)×Nat×Nat) (v:=fun x=> .tuple #[Ju x.1.1 (qD ss [] 1).length x.1.2, .int .i64 (wT ss [] 1)]) (r:=fun x=>JD (qD ss [] 1).length (qD ss [] 1) x.2.1 x.2.2 x.1.1) (H:=fun _=>True) J J J (lb J) (fun w1 hs=>Qm (V:=fun A' c'=> .tuple #[Ju A' (qD ss [] 1).length c', .int .i64 (wT ss [] 1)]) (KM A2 n2 c2_ ss w1 (h2.over hs.fin) ht2)) ?_
   rintro⟨⟨pA,pc⟩,plo,phi⟩ -
   refine N8 ?_;refine qd [(31, .bool (!Xg rs ss))] (kK [2,3,4,5]) (fun L h_5=> ?_) ?_
   ·refine S4 ?_;refine cV 28 (fun g2=> ?_) (fun g2=> ?_)
    ·refine S4 ?_
     exact Jb h_5 ⟨vb (by simp [Xg,g2]),sz⟩ (u9 J)
    ·refine S6 ?_
     exact Jb h_5 ⟨vb (by simp [Xg,g2]),sz⟩ (u9 J)
   ·refine v9 ?_;refine cZ (fun c2=> ?_) (fun c2=> ?_)
    ·refine S7 ?_;refine J6 J (.tmp J) (.tmp J) ?_
     intro w' hs
     have hok:Xg rs ss=false:= (by simpa using c2)
     exact⟨by simp [shV,shC,hin,hok],hs.fin⟩
    ·have hok:Xg rs ss=true:= (by simpa using c2)
     have hz:wT rs [] 1=0∧wT ss [] 1=0:= (by simpa [Xg] using hok)
     have hr1:=B6 hz.1
     have hr2:=B6 hz.2
     refine S4 ?_;refine Jw 7 ?_;refine dK 0 ?_;refine dK 2 ?_;refine Jh (i:=1) J (by decide) (by kernel_rfl) J ?_;refine jP uN (X:= (Option Addr×Nat)×Nat×Nat) (v:=fun x=>Ju x.1.1 (vX (qD rs [] 1)).length x.1.2) (r:=fun x=>JD (vX (qD rs [] 1)).length (vX (qD rs [] 1)) x.2.1 x.2.2 x.1.1) (H:=fun _=>True) J J J (lb J) (fun w1 hs=>Qm (V:=fun A' c'=>Ju A' (vX (qD rs [] 1)).length c') (Y7 _ _ _ (qD rs [] 1) w1 (Vy (hs.all 2 _ J).1).rings hr1)) ?_
     rintro⟨⟨tA,tc⟩,tlo,thi⟩ -
     refine n9 ?_;refine Q5 (u9 J) ?_;refine Jh (i:=3) J (by decide) (by kernel_rfl) J ?_;refine jP uN (X:= (Option Addr×Nat)×Nat×Nat) (v:=fun x=>Ju x.1.1 (vX (qD ss [] 1)).length x.1.2) (r:=fun x=>JD (vX (qD ss [] 1)).length (vX (qD ss [] 1)) x.2.1 x.2.2 x.1.1) (H:=fun _=>True) J J J (lb J) (fun w1 hs=>Qm (V:=fun A' c'=>Ju A' (vX (qD ss [] 1)).length c') (Y7 _ _ _ (qD ss [] 1) w1 (Vy (hs.all 3 _ J).1).rings hr2)) ?_
     rintro⟨⟨uA,uc⟩,ulo,uhi⟩ -
     refine n9 ?_;refine Q5 (u9 J) ?_;refine dZ 4 J (jH wv J J (fun w1 hs=>uC _ _ _ _ _ _ (vX (qD rs [] 1)) (vX (qD ss [] 1)) w1 (Vy (hs.all 4 _ J).1).rings (Vy (hs.all 5 _ J).1).rings (Rw (ZQ _)))) ?_;refine dK 5 ?_;refine dK 6 ?_;refine Jj (by kernel_rfl) ?_;refine S2 ?_;refine J6 J (.tmp J) (.tmp J) ?_
     intro w' hs
     exact⟨by simp [shV,shC,hin,hok],hs.fin⟩
theorem Xl (A:Option Addr) (n c:Nat) (rs:List jS) (A2:Option Addr) (n2 c2_:Nat) (ss:List jS) (w:World) (h:Rings w A n rs) (h2:Rings w A2 n2 ss) (ht: (total rs:Int)≤1048576) (ht2: (total ss:Int)≤1048576) :
  Calls Tryz.prog 27 #[Ju A n c,Ju A2 n2 c2_] w fun e w'=>e= .returned (.tuple #[.bool (shV rs ss), .int .i64 (shC rs ss)])∧Over w w':=by
 have hl:=h.1
 have hl2:=h2.1
 have hm: (n:Int)≤9223372036854775807:=by unfold total at ht;omega
 have hm2: (n2:Int)≤9223372036854775807:=by unfold total at ht2;omega
 refine jU (m:=35) (Tryz.func27) J J (lb J) ?_;refine S3 ?_;refine aX (fun b1=> ?_);refine N1 ?_;refine aX (fun b2=> ?_);refine N4 ?_;refine qd [(15, .bool (!wm rs ss))] (kK [2,3,4,5]) (fun L h_1=> ?_) ?_
 ·refine S1 ?_;refine a9 (jH KW J J (fun w1 hs=>WF _ _ A n c rs w1 (qo (k:=0) J J w1 hs) (JQ (hs.cel (k:=0) J)) (h.over hs.fin) hm)) ?_;refine S2 ?_;refine cV 12 (fun g1=> ?_) (fun g1=> ?_)
  ·refine S4 ?_
   exact Jb h_1 ⟨vb (by rw [wm,g1];rfl),sz⟩ (u9 J)
  ·refine h9 ?_;refine o9 (jH KW J J (fun w1 hs=>WF _ _ A2 n2 c2_ ss w1 (qo (k:=1) J J w1 hs) (JQ (hs.cel (k:=1) J)) (h2.over hs.fin) hm2)) ?_;refine S4 ?_
   exact Jb h_1 ⟨vb (by rw [wm,g1];rfl),sz⟩ (u9 J)
 ·refine v9 ?_;refine cZ (fun c1=> ?_) (fun c1=> ?_)
  ·refine S7 ?_;refine J6 J (.tmp J) (.tmp J) ?_
   intro w' hs
   have hin:wm rs ss=false:= (by simpa using c1)
   exact⟨by simp [shV,shC,hin],hs.fin⟩
  ·have hin:wm rs ss=true:= (by simpa using c1)
   refine S6 ?_;refine jP KA (X:= (Option Addr×Nat)×Nat×Nat) (v:=fun x=> .tuple #[Ju x.1.1 (qD rs [] 1).length x.1.2, .int .i64 (wT rs [] 1)]) (r:=fun x=>JD (qD rs [] 1).length (qD rs [] 1) x.2.1 x.2.2 x.1.1) (H:=fun _=>True) J J J (lb J) (fun w1 hs=>Qm (V:=fun A' c'=> .tuple #[Ju A' (qD rs [] 1).length c', .int .i64 (wT rs [] 1)]) (KB A n c rs w1 (h.over hs.fin) ht)) ?_
   rintro⟨⟨oA,oc⟩,olo,ohi⟩ -
   refine N4 ?_;refine aL (fun b3=> ?_);refine N8 ?_;refine jP KA (X:= (Option Addr×Nat)×Nat×Nat) (v:=fun x=> .tuple #[Ju x.1.1 (qD ss [] 1).length x.1.2, .int .i64 (wT ss [] 1)]) (r:=fun x=>JD (qD ss [] 1).length (qD ss [] 1) x.2.1 x.2.2 x.1.1) (H:=fun _=>True) J J J (lb J) (fun w1 hs=>Qm (V:=fun A' c'=> .tuple #[Ju A' (qD ss [] 1).length c', .int .i64 (wT ss [] 1)]) (KB A2 n2 c2_ ss w1 (h2.over hs.fin) ht2)) ?_
   rintro⟨⟨pA,pc⟩,plo,phi⟩ -
   refine N4 ?_;refine aL (fun b4=> ?_);refine N5 ?_;refine qd [(31, .bool (!Xg rs ss))] (kK [4,5,6,8]) (fun L h_5=> ?_) ?_
   ·refine S4 ?_;refine cV 28 (fun g2=> ?_) (fun g2=> ?_)
    ·refine S4 ?_
     exact Jb h_5 ⟨vb (by simp [Xg,g2]),sz⟩ (u9 J)
    ·refine S6 ?_
     exact Jb h_5 ⟨vb (by simp [Xg,g2]),sz⟩ (u9 J)
   ·refine v9 ?_;refine cZ (fun c2=> ?_) (fun c2=> ?_)
    ·refine S7 ?_;refine J6 J (.tmp J) (.tmp J) ?_
     intro w' hs
     have hok:Xg rs ss=false:= (by simpa using c2)
     exact⟨by simp [shV,shC,hin,hok],hs.fin⟩
    ·have hok:Xg rs ss=true:= (by simpa using c2)
     have hz:wT rs [] 1=0∧wT ss [] 1=0:= (by simpa [Xg] using hok)
     have hr1:=B6 hz.1
     have hr2:=B6 hz.2
     refine S5 ?_;refine jP y5 (X:= (Option Addr×Nat)×Nat×Nat) (v:=fun x=>Ju x.1.1 (vX (qD rs [] 1)).length x.1.2) (r:=fun x=>JD (vX (qD rs [] 1)).length (vX (qD rs [] 1)) x.2.1 x.2.2 x.1.1) (H:=fun _=>True) J J J (lb J) (fun w1 hs=>Qm (V:=fun A' c'=>Ju A' (vX (qD rs [] 1)).length c') (GJ _ _ _ _ _ (qD rs [] 1) w1 (qo (k:=3) J J w1 hs) (JQ (hs.cel (k:=3) J)) (Vy (hs.all 2 _ J).1).rings hr1)) ?_
     rintro⟨⟨tA,tc⟩,tlo,thi⟩ -
     refine N1 ?_;refine jP y5 (X:= (Option Addr×Nat)×Nat×Nat) (v:=fun x=>Ju x.1.1 (vX (qD ss [] 1)).length x.1.2) (r:=fun x=>JD (vX (qD ss [] 1)).length (vX (qD ss [] 1)) x.2.1 x.2.2 x.1.1) (H:=fun _=>True) J J J (lb J) (fun w1 hs=>Qm (V:=fun A' c'=>Ju A' (vX (qD ss [] 1)).length c') (GJ _ _ _ _ _ (qD ss [] 1) w1 (qo (k:=5) J J w1 hs) (JQ (hs.cel (k:=5) J)) (Vy (hs.all 4 _ J).1).rings hr2)) ?_
     rintro⟨⟨uA,uc⟩,ulo,uhi⟩ -
     refine n9 ?_;refine a9 (jH wy J J (fun w1 hs=>wD _ _ _ _ _ _ (vX (qD rs [] 1)) (vX (qD ss [] 1)) w1 (Vy (hs.all 6 _ J).1).rings (Vy (hs.all 7 _ J).1).rings (ZQ _).total (ZQ _).total)) ?_;refine S4 ?_;refine J6 J (.tmp J) (.tmp J) ?_
     intro w' hs
     exact⟨by simp [shV,shC,hin,hok],hs.fin⟩
end Go.Proofs.YtkagkgjjfdkoaaaGreat
