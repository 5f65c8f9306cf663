/-
  No cell of these rows narrows 'for every input' (looked for: loops, veiled, ifaces, maps, wideKeys, modest, calm, conditions, laid).
  DERIVED. THE GIVEN ROWS OF THIS SEAT. 10 by the template 'for every input the law returns true; each argument reads behind the call as it read before'; 0 by the template 'total and deterministic' (their statements: YtcplmmoeglembaaTotals.lean).
  GIVEN WITH THE SEED: the statements are not yours to turn. If you find one false, say at which input.
  Laid BY PROGRAM, IN A SANDBOX (cutbox-rows.mjs): the forced cells as the released guide's own fill.sh prints them over the translation 667cb758c8e837db… (all of the seat's roots in one cut). By AI agents, Wed Nov 11 2026. No macro, syntax, notation, axiom, sorry.
-/
import Derived.Test.YtcplmmoeglembaaChecked
import GoSem.Claim
import GoSem.ClaimJoined
import GoSem.ClaimMapViews
import Derived.JoinedTies
import Derived.KernelRfl
namespace Go.Proofs.Ytcplmmoeglembaa
/- THE CELL 'sum', in the pinned program and in every row, IS THE sha256 OF THE DUMP (.gsa) THAT YtcplmmoeglembaaProg.lean LOADS. Nothing in Lean hashes anything: it is a label: what it is worth is what the hold of that sum in a sandbox is worth. -/
noncomputable def Try.pinned : Pinned := { name := "ytcplmmoeglembaa", sum := "667cb758c8e837db7aa19cd249923a7e678dd11b03fc6b93510fe69f659bb303", checked := Try.checked }
namespace Rows
def none {H : Type} : Left H := { results := [], args := [] }

/-- 'laws.FnExactReflectPen': WHATEVER THE INPUT: true; the input reads as it did. -/
def fnExactReflectPenSpec : ChangeSpec := { name := "fnExactReflectPen", fn := fun _ => fun
  | [d] => { results := [.lit (.bool true)], args := [d] }
  | _ => none }
def fnExactReflectPenRow : OpenClaim := { program := "ytcplmmoeglembaa", sum := "667cb758c8e837db7aa19cd249923a7e678dd11b03fc6b93510fe69f659bb303", func := "loop.example/g00883/laws.FnExactReflectPen", spec := "fnExactReflectPen", unfollowed := true, recurses := true, apart := false }
def FnExactReflectPenSaid : Prop := fnExactReflectPenRow.holds Try.pinned (OpenSpec.ofChange fnExactReflectPenSpec)

/-- ITS FALSE NEIGHBOUR: 'it returns false'. Refute it at one input. -/
def fnExactReflectPenWrong : ChangeSpec := { name := "fnExactReflectPen", fn := fun _ => fun
  | [d] => { results := [.lit (.bool false)], args := [d] }
  | _ => none }
def FnExactReflectPenWrongFalsely : Prop := fnExactReflectPenRow.holds Try.pinned (OpenSpec.ofChange fnExactReflectPenWrong)

/-- 'laws.FnExactPenHas': WHATEVER THE INPUT: true; the input reads as it did. -/
def fnExactPenHasSpec : ChangeSpec := { name := "fnExactPenHas", fn := fun _ => fun
  | [d1, d2] => { results := [.lit (.bool true)], args := [d1, d2] }
  | _ => none }
def fnExactPenHasRow : OpenClaim := { program := "ytcplmmoeglembaa", sum := "667cb758c8e837db7aa19cd249923a7e678dd11b03fc6b93510fe69f659bb303", func := "loop.example/g00883/laws.FnExactPenHas", spec := "fnExactPenHas", unfollowed := true, recurses := true, apart := false }
def FnExactPenHasSaid : Prop := fnExactPenHasRow.holds Try.pinned (OpenSpec.ofChange fnExactPenHasSpec)

/-- ITS FALSE NEIGHBOUR: 'it returns false'. Refute it at one input. -/
def fnExactPenHasWrong : ChangeSpec := { name := "fnExactPenHas", fn := fun _ => fun
  | [d1, d2] => { results := [.lit (.bool false)], args := [d1, d2] }
  | _ => none }
def FnExactPenHasWrongFalsely : Prop := fnExactPenHasRow.holds Try.pinned (OpenSpec.ofChange fnExactPenHasWrong)

/-- 'laws.FnExactStrokeBounds': WHATEVER THE INPUT: true; the input reads as it did. -/
def fnExactStrokeBoundsSpec : ChangeSpec := { name := "fnExactStrokeBounds", fn := fun _ => fun
  | [d1, d2] => { results := [.lit (.bool true)], args := [d1, d2] }
  | _ => none }
def fnExactStrokeBoundsRow : OpenClaim := { program := "ytcplmmoeglembaa", sum := "667cb758c8e837db7aa19cd249923a7e678dd11b03fc6b93510fe69f659bb303", func := "loop.example/g00883/laws.FnExactStrokeBounds", spec := "fnExactStrokeBounds", unfollowed := true, recurses := true, apart := false }
def FnExactStrokeBoundsSaid : Prop := fnExactStrokeBoundsRow.holds Try.pinned (OpenSpec.ofChange fnExactStrokeBoundsSpec)

/-- ITS FALSE NEIGHBOUR: 'it returns false'. Refute it at one input. -/
def fnExactStrokeBoundsWrong : ChangeSpec := { name := "fnExactStrokeBounds", fn := fun _ => fun
  | [d1, d2] => { results := [.lit (.bool false)], args := [d1, d2] }
  | _ => none }
def FnExactStrokeBoundsWrongFalsely : Prop := fnExactStrokeBoundsRow.holds Try.pinned (OpenSpec.ofChange fnExactStrokeBoundsWrong)

/-- 'laws.FnExactMinkowskiSum': WHATEVER THE INPUT: true; the input reads as it did. -/
def fnExactMinkowskiSumSpec : ChangeSpec := { name := "fnExactMinkowskiSum", fn := fun _ => fun
  | [d1, d2] => { results := [.lit (.bool true)], args := [d1, d2] }
  | _ => none }
def fnExactMinkowskiSumRow : OpenClaim := { program := "ytcplmmoeglembaa", sum := "667cb758c8e837db7aa19cd249923a7e678dd11b03fc6b93510fe69f659bb303", func := "loop.example/g00883/laws.FnExactMinkowskiSum", spec := "fnExactMinkowskiSum", unfollowed := true, recurses := true, apart := false }
def FnExactMinkowskiSumSaid : Prop := fnExactMinkowskiSumRow.holds Try.pinned (OpenSpec.ofChange fnExactMinkowskiSumSpec)

/-- ITS FALSE NEIGHBOUR: 'it returns false'. Refute it at one input. -/
def fnExactMinkowskiSumWrong : ChangeSpec := { name := "fnExactMinkowskiSum", fn := fun _ => fun
  | [d1, d2] => { results := [.lit (.bool false)], args := [d1, d2] }
  | _ => none }
def FnExactMinkowskiSumWrongFalsely : Prop := fnExactMinkowskiSumRow.holds Try.pinned (OpenSpec.ofChange fnExactMinkowskiSumWrong)

/-- 'laws.FnExactSupportOf': WHATEVER THE INPUT: true; the input reads as it did. -/
def fnExactSupportOfSpec : ChangeSpec := { name := "fnExactSupportOf", fn := fun _ => fun
  | [d1, d2] => { results := [.lit (.bool true)], args := [d1, d2] }
  | _ => none }
def fnExactSupportOfRow : OpenClaim := { program := "ytcplmmoeglembaa", sum := "667cb758c8e837db7aa19cd249923a7e678dd11b03fc6b93510fe69f659bb303", func := "loop.example/g00883/laws.FnExactSupportOf", spec := "fnExactSupportOf", unfollowed := true, recurses := true, apart := false }
def FnExactSupportOfSaid : Prop := fnExactSupportOfRow.holds Try.pinned (OpenSpec.ofChange fnExactSupportOfSpec)

/-- ITS FALSE NEIGHBOUR: 'it returns false'. Refute it at one input. -/
def fnExactSupportOfWrong : ChangeSpec := { name := "fnExactSupportOf", fn := fun _ => fun
  | [d1, d2] => { results := [.lit (.bool false)], args := [d1, d2] }
  | _ => none }
def FnExactSupportOfWrongFalsely : Prop := fnExactSupportOfRow.holds Try.pinned (OpenSpec.ofChange fnExactSupportOfWrong)

/-- 'laws.FnExactExtentOf': WHATEVER THE INPUT: true; the input reads as it did. -/
def fnExactExtentOfSpec : ChangeSpec := { name := "fnExactExtentOf", fn := fun _ => fun
  | [d1, d2] => { results := [.lit (.bool true)], args := [d1, d2] }
  | _ => none }
def fnExactExtentOfRow : OpenClaim := { program := "ytcplmmoeglembaa", sum := "667cb758c8e837db7aa19cd249923a7e678dd11b03fc6b93510fe69f659bb303", func := "loop.example/g00883/laws.FnExactExtentOf", spec := "fnExactExtentOf", unfollowed := true, recurses := true, apart := false }
def FnExactExtentOfSaid : Prop := fnExactExtentOfRow.holds Try.pinned (OpenSpec.ofChange fnExactExtentOfSpec)

/-- ITS FALSE NEIGHBOUR: 'it returns false'. Refute it at one input. -/
def fnExactExtentOfWrong : ChangeSpec := { name := "fnExactExtentOf", fn := fun _ => fun
  | [d1, d2] => { results := [.lit (.bool false)], args := [d1, d2] }
  | _ => none }
def FnExactExtentOfWrongFalsely : Prop := fnExactExtentOfRow.holds Try.pinned (OpenSpec.ofChange fnExactExtentOfWrong)

/-- 'laws.FnExactSweepOf': WHATEVER THE INPUT: true; the input reads as it did. -/
def fnExactSweepOfSpec : ChangeSpec := { name := "fnExactSweepOf", fn := fun _ => fun
  | [d1, d2, d3] => { results := [.lit (.bool true)], args := [d1, d2, d3] }
  | _ => none }
def fnExactSweepOfRow : OpenClaim := { program := "ytcplmmoeglembaa", sum := "667cb758c8e837db7aa19cd249923a7e678dd11b03fc6b93510fe69f659bb303", func := "loop.example/g00883/laws.FnExactSweepOf", spec := "fnExactSweepOf", unfollowed := true, recurses := true, apart := false }
def FnExactSweepOfSaid : Prop := fnExactSweepOfRow.holds Try.pinned (OpenSpec.ofChange fnExactSweepOfSpec)

/-- ITS FALSE NEIGHBOUR: 'it returns false'. Refute it at one input. -/
def fnExactSweepOfWrong : ChangeSpec := { name := "fnExactSweepOf", fn := fun _ => fun
  | [d1, d2, d3] => { results := [.lit (.bool false)], args := [d1, d2, d3] }
  | _ => none }
def FnExactSweepOfWrongFalsely : Prop := fnExactSweepOfRow.holds Try.pinned (OpenSpec.ofChange fnExactSweepOfWrong)

/-- 'laws.FnExactStrokeHas': WHATEVER THE INPUT: true; the input reads as it did. -/
def fnExactStrokeHasSpec : ChangeSpec := { name := "fnExactStrokeHas", fn := fun _ => fun
  | [d1, d2, d3, d4] => { results := [.lit (.bool true)], args := [d1, d2, d3, d4] }
  | _ => none }
def fnExactStrokeHasRow : OpenClaim := { program := "ytcplmmoeglembaa", sum := "667cb758c8e837db7aa19cd249923a7e678dd11b03fc6b93510fe69f659bb303", func := "loop.example/g00883/laws.FnExactStrokeHas", spec := "fnExactStrokeHas", unfollowed := true, recurses := true, apart := false }
def FnExactStrokeHasSaid : Prop := fnExactStrokeHasRow.holds Try.pinned (OpenSpec.ofChange fnExactStrokeHasSpec)

/-- ITS FALSE NEIGHBOUR: 'it returns false'. Refute it at one input. -/
def fnExactStrokeHasWrong : ChangeSpec := { name := "fnExactStrokeHas", fn := fun _ => fun
  | [d1, d2, d3, d4] => { results := [.lit (.bool false)], args := [d1, d2, d3, d4] }
  | _ => none }
def FnExactStrokeHasWrongFalsely : Prop := fnExactStrokeHasRow.holds Try.pinned (OpenSpec.ofChange fnExactStrokeHasWrong)

/-- 'laws.FnMinkowski': WHATEVER THE INPUT: true; the input reads as it did. -/
def fnMinkowskiSpec : ChangeSpec := { name := "fnMinkowski", fn := fun _ => fun
  | [d1, d2] => { results := [.lit (.bool true)], args := [d1, d2] }
  | _ => none }
def fnMinkowskiRow : OpenClaim := { program := "ytcplmmoeglembaa", sum := "667cb758c8e837db7aa19cd249923a7e678dd11b03fc6b93510fe69f659bb303", func := "loop.example/g00883/laws.FnMinkowski", spec := "fnMinkowski", unfollowed := true, recurses := true, apart := false }
def FnMinkowskiSaid : Prop := fnMinkowskiRow.holds Try.pinned (OpenSpec.ofChange fnMinkowskiSpec)

/-- ITS FALSE NEIGHBOUR: 'it returns false'. Refute it at one input. -/
def fnMinkowskiWrong : ChangeSpec := { name := "fnMinkowski", fn := fun _ => fun
  | [d1, d2] => { results := [.lit (.bool false)], args := [d1, d2] }
  | _ => none }
def FnMinkowskiWrongFalsely : Prop := fnMinkowskiRow.holds Try.pinned (OpenSpec.ofChange fnMinkowskiWrong)

/-- 'laws.FnExactRawStroke': WHATEVER THE INPUT: true; the input reads as it did. -/
def fnExactRawStrokeSpec : ChangeSpec := { name := "fnExactRawStroke", fn := fun _ => fun
  | [d1, d2, d3] => { results := [.lit (.bool true)], args := [d1, d2, d3] }
  | _ => none }
def fnExactRawStrokeRow : OpenClaim := { program := "ytcplmmoeglembaa", sum := "667cb758c8e837db7aa19cd249923a7e678dd11b03fc6b93510fe69f659bb303", func := "loop.example/g00883/laws.FnExactRawStroke", spec := "fnExactRawStroke", unfollowed := true, recurses := true, apart := false }
def FnExactRawStrokeSaid : Prop := fnExactRawStrokeRow.holds Try.pinned (OpenSpec.ofChange fnExactRawStrokeSpec)

/-- ITS FALSE NEIGHBOUR: 'it returns false'. Refute it at one input. -/
def fnExactRawStrokeWrong : ChangeSpec := { name := "fnExactRawStroke", fn := fun _ => fun
  | [d1, d2, d3] => { results := [.lit (.bool false)], args := [d1, d2, d3] }
  | _ => none }
def FnExactRawStrokeWrongFalsely : Prop := fnExactRawStrokeRow.holds Try.pinned (OpenSpec.ofChange fnExactRawStrokeWrong)

/- THE SECOND FORM. 'bulk': how many values and letters a reading holds, each counted each time it is reached (what is shared counts as often as it is met; a slice's spare places count too). A statement '..UptoSaid' is the law's where the arguments, and the package variables that the reading takes, are together of bulk at most 1048576: NARROWER than '..Said'. Prove '..Said' where nothing that the law and all that it calls make is longer than what came in: it says more and counts as full. Else prove '..UptoSaid'. A law counts once. -/
mutual
def uptoBulk {H : Type} : DataW H → Nat
  | .lit (.string bytes) => bytes.length + 1
  | .lit _ => 1
  | .nil => 1
  | .ptr d => uptoBulk d + 1
  | .slice elems spare => uptoBulkAll elems + uptoBulkAll spare + 1
  | .agg parts => uptoBulkAll parts + 1
  | .iface _ d => uptoBulk d + 1
  | .map entries => uptoBulkEntries entries + 1
  | .held _ => 1
def uptoBulkAll {H : Type} : List (DataW H) → Nat
  | [] => 0
  | d :: r => uptoBulk d + uptoBulkAll r
def uptoBulkEntries {H : Type} : List (Lit × DataW H) → Nat
  | [] => 0
  | x :: r => uptoBulkEntry x + uptoBulkEntries r
def uptoBulkEntry {H : Type} : Lit × DataW H → Nat
  | (.string bytes, d) => bytes.length + uptoBulk d + 1
  | (_, d) => uptoBulk d + 1
 end
def uptoSmall : (H : Type) → List (DataW H) → Bool := fun _ ds => decide (uptoBulkAll ds ≤ 1048576)
def OpenSpec.upto (s : _root_.Go.ChangeSpec) : _root_.Go.OpenSpec := { _root_.Go.OpenSpec.ofChange s with cond := some uptoSmall }

/-- 'laws.FnExactReflectPen', WHERE WHAT IT READS IS OF BULK AT MOST 1048576: true; the input reads as it did. -/
def fnExactReflectPenUptoRow : OpenClaim := { program := "ytcplmmoeglembaa", sum := "667cb758c8e837db7aa19cd249923a7e678dd11b03fc6b93510fe69f659bb303", func := "loop.example/g00883/laws.FnExactReflectPen", spec := "fnExactReflectPen", unfollowed := true, recurses := true, apart := false, narrowed := true }
def FnExactReflectPenUptoSaid : Prop := fnExactReflectPenUptoRow.holds Try.pinned (OpenSpec.upto fnExactReflectPenSpec)

/-- 'laws.FnExactPenHas', WHERE WHAT IT READS IS OF BULK AT MOST 1048576: true; the input reads as it did. -/
def fnExactPenHasUptoRow : OpenClaim := { program := "ytcplmmoeglembaa", sum := "667cb758c8e837db7aa19cd249923a7e678dd11b03fc6b93510fe69f659bb303", func := "loop.example/g00883/laws.FnExactPenHas", spec := "fnExactPenHas", unfollowed := true, recurses := true, apart := false, narrowed := true }
def FnExactPenHasUptoSaid : Prop := fnExactPenHasUptoRow.holds Try.pinned (OpenSpec.upto fnExactPenHasSpec)

/-- 'laws.FnExactStrokeBounds', WHERE WHAT IT READS IS OF BULK AT MOST 1048576: true; the input reads as it did. -/
def fnExactStrokeBoundsUptoRow : OpenClaim := { program := "ytcplmmoeglembaa", sum := "667cb758c8e837db7aa19cd249923a7e678dd11b03fc6b93510fe69f659bb303", func := "loop.example/g00883/laws.FnExactStrokeBounds", spec := "fnExactStrokeBounds", unfollowed := true, recurses := true, apart := false, narrowed := true }
def FnExactStrokeBoundsUptoSaid : Prop := fnExactStrokeBoundsUptoRow.holds Try.pinned (OpenSpec.upto fnExactStrokeBoundsSpec)

/-- 'laws.FnExactMinkowskiSum', WHERE WHAT IT READS IS OF BULK AT MOST 1048576: true; the input reads as it did. -/
def fnExactMinkowskiSumUptoRow : OpenClaim := { program := "ytcplmmoeglembaa", sum := "667cb758c8e837db7aa19cd249923a7e678dd11b03fc6b93510fe69f659bb303", func := "loop.example/g00883/laws.FnExactMinkowskiSum", spec := "fnExactMinkowskiSum", unfollowed := true, recurses := true, apart := false, narrowed := true }
def FnExactMinkowskiSumUptoSaid : Prop := fnExactMinkowskiSumUptoRow.holds Try.pinned (OpenSpec.upto fnExactMinkowskiSumSpec)

/-- 'laws.FnExactSupportOf', WHERE WHAT IT READS IS OF BULK AT MOST 1048576: true; the input reads as it did. -/
def fnExactSupportOfUptoRow : OpenClaim := { program := "ytcplmmoeglembaa", sum := "667cb758c8e837db7aa19cd249923a7e678dd11b03fc6b93510fe69f659bb303", func := "loop.example/g00883/laws.FnExactSupportOf", spec := "fnExactSupportOf", unfollowed := true, recurses := true, apart := false, narrowed := true }
def FnExactSupportOfUptoSaid : Prop := fnExactSupportOfUptoRow.holds Try.pinned (OpenSpec.upto fnExactSupportOfSpec)

/-- 'laws.FnExactExtentOf', WHERE WHAT IT READS IS OF BULK AT MOST 1048576: true; the input reads as it did. -/
def fnExactExtentOfUptoRow : OpenClaim := { program := "ytcplmmoeglembaa", sum := "667cb758c8e837db7aa19cd249923a7e678dd11b03fc6b93510fe69f659bb303", func := "loop.example/g00883/laws.FnExactExtentOf", spec := "fnExactExtentOf", unfollowed := true, recurses := true, apart := false, narrowed := true }
def FnExactExtentOfUptoSaid : Prop := fnExactExtentOfUptoRow.holds Try.pinned (OpenSpec.upto fnExactExtentOfSpec)

/-- 'laws.FnExactSweepOf', WHERE WHAT IT READS IS OF BULK AT MOST 1048576: true; the input reads as it did. -/
def fnExactSweepOfUptoRow : OpenClaim := { program := "ytcplmmoeglembaa", sum := "667cb758c8e837db7aa19cd249923a7e678dd11b03fc6b93510fe69f659bb303", func := "loop.example/g00883/laws.FnExactSweepOf", spec := "fnExactSweepOf", unfollowed := true, recurses := true, apart := false, narrowed := true }
def FnExactSweepOfUptoSaid : Prop := fnExactSweepOfUptoRow.holds Try.pinned (OpenSpec.upto fnExactSweepOfSpec)

/-- 'laws.FnExactStrokeHas', WHERE WHAT IT READS IS OF BULK AT MOST 1048576: true; the input reads as it did. -/
def fnExactStrokeHasUptoRow : OpenClaim := { program := "ytcplmmoeglembaa", sum := "667cb758c8e837db7aa19cd249923a7e678dd11b03fc6b93510fe69f659bb303", func := "loop.example/g00883/laws.FnExactStrokeHas", spec := "fnExactStrokeHas", unfollowed := true, recurses := true, apart := false, narrowed := true }
def FnExactStrokeHasUptoSaid : Prop := fnExactStrokeHasUptoRow.holds Try.pinned (OpenSpec.upto fnExactStrokeHasSpec)

/-- 'laws.FnMinkowski', WHERE WHAT IT READS IS OF BULK AT MOST 1048576: true; the input reads as it did. -/
def fnMinkowskiUptoRow : OpenClaim := { program := "ytcplmmoeglembaa", sum := "667cb758c8e837db7aa19cd249923a7e678dd11b03fc6b93510fe69f659bb303", func := "loop.example/g00883/laws.FnMinkowski", spec := "fnMinkowski", unfollowed := true, recurses := true, apart := false, narrowed := true }
def FnMinkowskiUptoSaid : Prop := fnMinkowskiUptoRow.holds Try.pinned (OpenSpec.upto fnMinkowskiSpec)

/-- 'laws.FnExactRawStroke', WHERE WHAT IT READS IS OF BULK AT MOST 1048576: true; the input reads as it did. -/
def fnExactRawStrokeUptoRow : OpenClaim := { program := "ytcplmmoeglembaa", sum := "667cb758c8e837db7aa19cd249923a7e678dd11b03fc6b93510fe69f659bb303", func := "loop.example/g00883/laws.FnExactRawStroke", spec := "fnExactRawStroke", unfollowed := true, recurses := true, apart := false, narrowed := true }
def FnExactRawStrokeUptoSaid : Prop := fnExactRawStrokeUptoRow.holds Try.pinned (OpenSpec.upto fnExactRawStrokeSpec)

end Rows
end Go.Proofs.Ytcplmmoeglembaa
