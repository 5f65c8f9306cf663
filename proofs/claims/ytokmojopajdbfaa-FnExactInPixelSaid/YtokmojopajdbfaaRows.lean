/-
  No cell of these rows narrows 'for every input' (looked for: loops, veiled, ifaces, maps, wideKeys, modest, calm, conditions, laid).
  DERIVED. THE GIVEN ROWS OF THIS SEAT. 12 by the template 'for every input the law returns true; each argument reads behind the call as it read before'; 0 by the template 'total and deterministic' (their statements: YtokmojopajdbfaaTotals.lean).
  GIVEN WITH THE SEED: the statements are not yours to turn. If you find one false, say at which input.
  Laid BY PROGRAM, IN A SANDBOX (cutbox-rows.mjs): the forced cells as the released guide's own fill.sh prints them over the translation a929dacd9160d0f8… (all of the seat's roots in one cut). By AI agents, Wed Nov 11 2026. No macro, syntax, notation, axiom, sorry.
-/
import Derived.Test.YtokmojopajdbfaaChecked
import GoSem.Claim
import GoSem.ClaimJoined
import GoSem.ClaimMapViews
import Derived.JoinedTies
import Derived.KernelRfl
namespace Go.Proofs.Ytokmojopajdbfaa
/- THE CELL 'sum', in the pinned program and in every row, IS THE sha256 OF THE DUMP (.gsa) THAT YtokmojopajdbfaaProg.lean LOADS. Nothing in Lean hashes anything: it is a label: what it is worth is what the hold of that sum in a sandbox is worth. -/
noncomputable def Try.pinned : Pinned := { name := "ytokmojopajdbfaa", sum := "a929dacd9160d0f8f054bb07666dfde92468b1e0ca3ca909313875bd6966ec05", checked := Try.checked }
namespace Rows
def none {H : Type} : Left H := { results := [], args := [] }

/-- 'laws.FnExactIsCorner': WHATEVER THE INPUT: true; the input reads as it did. -/
def fnExactIsCornerSpec : ChangeSpec := { name := "fnExactIsCorner", fn := fun _ => fun
  | [d1, d2, d3] => { results := [.lit (.bool true)], args := [d1, d2, d3] }
  | _ => none }
def fnExactIsCornerRow : OpenClaim := { program := "ytokmojopajdbfaa", sum := "a929dacd9160d0f8f054bb07666dfde92468b1e0ca3ca909313875bd6966ec05", func := "loop.example/g00883/laws.FnExactIsCorner", spec := "fnExactIsCorner", apart := false }
def FnExactIsCornerSaid : Prop := fnExactIsCornerRow.holds Try.pinned (OpenSpec.ofChange fnExactIsCornerSpec)

/-- ITS FALSE NEIGHBOUR: 'it returns false'. Refute it at one input. -/
def fnExactIsCornerWrong : ChangeSpec := { name := "fnExactIsCorner", fn := fun _ => fun
  | [d1, d2, d3] => { results := [.lit (.bool false)], args := [d1, d2, d3] }
  | _ => none }
def FnExactIsCornerWrongFalsely : Prop := fnExactIsCornerRow.holds Try.pinned (OpenSpec.ofChange fnExactIsCornerWrong)

/-- 'laws.FnExactValidRing': WHATEVER THE INPUT: true; the input reads as it did. -/
def fnExactValidRingSpec : ChangeSpec := { name := "fnExactValidRing", fn := fun _ => fun
  | [d] => { results := [.lit (.bool true)], args := [d] }
  | _ => none }
def fnExactValidRingRow : OpenClaim := { program := "ytokmojopajdbfaa", sum := "a929dacd9160d0f8f054bb07666dfde92468b1e0ca3ca909313875bd6966ec05", func := "loop.example/g00883/laws.FnExactValidRing", spec := "fnExactValidRing", apart := false }
def FnExactValidRingSaid : Prop := fnExactValidRingRow.holds Try.pinned (OpenSpec.ofChange fnExactValidRingSpec)

/-- ITS FALSE NEIGHBOUR: 'it returns false'. Refute it at one input. -/
def fnExactValidRingWrong : ChangeSpec := { name := "fnExactValidRing", fn := fun _ => fun
  | [d] => { results := [.lit (.bool false)], args := [d] }
  | _ => none }
def FnExactValidRingWrongFalsely : Prop := fnExactValidRingRow.holds Try.pinned (OpenSpec.ofChange fnExactValidRingWrong)

/-- 'laws.FnExactInPixel': WHATEVER THE INPUT: true; the input reads as it did. -/
def fnExactInPixelSpec : ChangeSpec := { name := "fnExactInPixel", fn := fun _ => fun
  | [d1, d2, d3] => { results := [.lit (.bool true)], args := [d1, d2, d3] }
  | _ => none }
def fnExactInPixelRow : OpenClaim := { program := "ytokmojopajdbfaa", sum := "a929dacd9160d0f8f054bb07666dfde92468b1e0ca3ca909313875bd6966ec05", func := "loop.example/g00883/laws.FnExactInPixel", spec := "fnExactInPixel", apart := false }
def FnExactInPixelSaid : Prop := fnExactInPixelRow.holds Try.pinned (OpenSpec.ofChange fnExactInPixelSpec)

/-- ITS FALSE NEIGHBOUR: 'it returns false'. Refute it at one input. -/
def fnExactInPixelWrong : ChangeSpec := { name := "fnExactInPixel", fn := fun _ => fun
  | [d1, d2, d3] => { results := [.lit (.bool false)], args := [d1, d2, d3] }
  | _ => none }
def FnExactInPixelWrongFalsely : Prop := fnExactInPixelRow.holds Try.pinned (OpenSpec.ofChange fnExactInPixelWrong)

/-- 'laws.FnExactLinesMeet': WHATEVER THE INPUT: true; the input reads as it did. -/
def fnExactLinesMeetSpec : ChangeSpec := { name := "fnExactLinesMeet", fn := fun _ => fun
  | [d1, d2, d3, d4] => { results := [.lit (.bool true)], args := [d1, d2, d3, d4] }
  | _ => none }
def fnExactLinesMeetRow : OpenClaim := { program := "ytokmojopajdbfaa", sum := "a929dacd9160d0f8f054bb07666dfde92468b1e0ca3ca909313875bd6966ec05", func := "loop.example/g00883/laws.FnExactLinesMeet", spec := "fnExactLinesMeet", apart := false }
def FnExactLinesMeetSaid : Prop := fnExactLinesMeetRow.holds Try.pinned (OpenSpec.ofChange fnExactLinesMeetSpec)

/-- ITS FALSE NEIGHBOUR: 'it returns false'. Refute it at one input. -/
def fnExactLinesMeetWrong : ChangeSpec := { name := "fnExactLinesMeet", fn := fun _ => fun
  | [d1, d2, d3, d4] => { results := [.lit (.bool false)], args := [d1, d2, d3, d4] }
  | _ => none }
def FnExactLinesMeetWrongFalsely : Prop := fnExactLinesMeetRow.holds Try.pinned (OpenSpec.ofChange fnExactLinesMeetWrong)

/-- 'laws.FnExactRingTwice': WHATEVER THE INPUT: true; the input reads as it did. -/
def fnExactRingTwiceSpec : ChangeSpec := { name := "fnExactRingTwice", fn := fun _ => fun
  | [d] => { results := [.lit (.bool true)], args := [d] }
  | _ => none }
def fnExactRingTwiceRow : OpenClaim := { program := "ytokmojopajdbfaa", sum := "a929dacd9160d0f8f054bb07666dfde92468b1e0ca3ca909313875bd6966ec05", func := "loop.example/g00883/laws.FnExactRingTwice", spec := "fnExactRingTwice", apart := false }
def FnExactRingTwiceSaid : Prop := fnExactRingTwiceRow.holds Try.pinned (OpenSpec.ofChange fnExactRingTwiceSpec)

/-- ITS FALSE NEIGHBOUR: 'it returns false'. Refute it at one input. -/
def fnExactRingTwiceWrong : ChangeSpec := { name := "fnExactRingTwice", fn := fun _ => fun
  | [d] => { results := [.lit (.bool false)], args := [d] }
  | _ => none }
def FnExactRingTwiceWrongFalsely : Prop := fnExactRingTwiceRow.holds Try.pinned (OpenSpec.ofChange fnExactRingTwiceWrong)

/-- 'laws.FnExactRingBounds': WHATEVER THE INPUT: true; the input reads as it did. -/
def fnExactRingBoundsSpec : ChangeSpec := { name := "fnExactRingBounds", fn := fun _ => fun
  | [d] => { results := [.lit (.bool true)], args := [d] }
  | _ => none }
def fnExactRingBoundsRow : OpenClaim := { program := "ytokmojopajdbfaa", sum := "a929dacd9160d0f8f054bb07666dfde92468b1e0ca3ca909313875bd6966ec05", func := "loop.example/g00883/laws.FnExactRingBounds", spec := "fnExactRingBounds", apart := false }
def FnExactRingBoundsSaid : Prop := fnExactRingBoundsRow.holds Try.pinned (OpenSpec.ofChange fnExactRingBoundsSpec)

/-- ITS FALSE NEIGHBOUR: 'it returns false'. Refute it at one input. -/
def fnExactRingBoundsWrong : ChangeSpec := { name := "fnExactRingBounds", fn := fun _ => fun
  | [d] => { results := [.lit (.bool false)], args := [d] }
  | _ => none }
def FnExactRingBoundsWrongFalsely : Prop := fnExactRingBoundsRow.holds Try.pinned (OpenSpec.ofChange fnExactRingBoundsWrong)

/-- 'laws.FnExactSameRegion': WHATEVER THE INPUT: true; the input reads as it did. -/
def fnExactSameRegionSpec : ChangeSpec := { name := "fnExactSameRegion", fn := fun _ => fun
  | [d1, d2] => { results := [.lit (.bool true)], args := [d1, d2] }
  | _ => none }
def fnExactSameRegionRow : OpenClaim := { program := "ytokmojopajdbfaa", sum := "a929dacd9160d0f8f054bb07666dfde92468b1e0ca3ca909313875bd6966ec05", func := "loop.example/g00883/laws.FnExactSameRegion", spec := "fnExactSameRegion", unfollowed := true, recurses := true, apart := false }
def FnExactSameRegionSaid : Prop := fnExactSameRegionRow.holds Try.pinned (OpenSpec.ofChange fnExactSameRegionSpec)

/-- ITS FALSE NEIGHBOUR: 'it returns false'. Refute it at one input. -/
def fnExactSameRegionWrong : ChangeSpec := { name := "fnExactSameRegion", fn := fun _ => fun
  | [d1, d2] => { results := [.lit (.bool false)], args := [d1, d2] }
  | _ => none }
def FnExactSameRegionWrongFalsely : Prop := fnExactSameRegionRow.holds Try.pinned (OpenSpec.ofChange fnExactSameRegionWrong)

/-- 'laws.FnExactValidRegion': WHATEVER THE INPUT: true; the input reads as it did. -/
def fnExactValidRegionSpec : ChangeSpec := { name := "fnExactValidRegion", fn := fun _ => fun
  | [d] => { results := [.lit (.bool true)], args := [d] }
  | _ => none }
def fnExactValidRegionRow : OpenClaim := { program := "ytokmojopajdbfaa", sum := "a929dacd9160d0f8f054bb07666dfde92468b1e0ca3ca909313875bd6966ec05", func := "loop.example/g00883/laws.FnExactValidRegion", spec := "fnExactValidRegion", apart := false }
def FnExactValidRegionSaid : Prop := fnExactValidRegionRow.holds Try.pinned (OpenSpec.ofChange fnExactValidRegionSpec)

/-- ITS FALSE NEIGHBOUR: 'it returns false'. Refute it at one input. -/
def fnExactValidRegionWrong : ChangeSpec := { name := "fnExactValidRegion", fn := fun _ => fun
  | [d] => { results := [.lit (.bool false)], args := [d] }
  | _ => none }
def FnExactValidRegionWrongFalsely : Prop := fnExactValidRegionRow.holds Try.pinned (OpenSpec.ofChange fnExactValidRegionWrong)

/-- 'laws.FnCrossings': WHATEVER THE INPUT: true; the input reads as it did. -/
def fnCrossingsSpec : ChangeSpec := { name := "fnCrossings", fn := fun _ => fun
  | [d] => { results := [.lit (.bool true)], args := [d] }
  | _ => none }
def fnCrossingsRow : OpenClaim := { program := "ytokmojopajdbfaa", sum := "a929dacd9160d0f8f054bb07666dfde92468b1e0ca3ca909313875bd6966ec05", func := "loop.example/g00883/laws.FnCrossings", spec := "fnCrossings", apart := false }
def FnCrossingsSaid : Prop := fnCrossingsRow.holds Try.pinned (OpenSpec.ofChange fnCrossingsSpec)

/-- ITS FALSE NEIGHBOUR: 'it returns false'. Refute it at one input. -/
def fnCrossingsWrong : ChangeSpec := { name := "fnCrossings", fn := fun _ => fun
  | [d] => { results := [.lit (.bool false)], args := [d] }
  | _ => none }
def FnCrossingsWrongFalsely : Prop := fnCrossingsRow.holds Try.pinned (OpenSpec.ofChange fnCrossingsWrong)

/-- 'laws.FnExactSimplifyRing': WHATEVER THE INPUT: true; the input reads as it did. -/
def fnExactSimplifyRingSpec : ChangeSpec := { name := "fnExactSimplifyRing", fn := fun _ => fun
  | [d] => { results := [.lit (.bool true)], args := [d] }
  | _ => none }
def fnExactSimplifyRingRow : OpenClaim := { program := "ytokmojopajdbfaa", sum := "a929dacd9160d0f8f054bb07666dfde92468b1e0ca3ca909313875bd6966ec05", func := "loop.example/g00883/laws.FnExactSimplifyRing", spec := "fnExactSimplifyRing", apart := false }
def FnExactSimplifyRingSaid : Prop := fnExactSimplifyRingRow.holds Try.pinned (OpenSpec.ofChange fnExactSimplifyRingSpec)

/-- ITS FALSE NEIGHBOUR: 'it returns false'. Refute it at one input. -/
def fnExactSimplifyRingWrong : ChangeSpec := { name := "fnExactSimplifyRing", fn := fun _ => fun
  | [d] => { results := [.lit (.bool false)], args := [d] }
  | _ => none }
def FnExactSimplifyRingWrongFalsely : Prop := fnExactSimplifyRingRow.holds Try.pinned (OpenSpec.ofChange fnExactSimplifyRingWrong)

/-- 'laws.FnExactEdgeCount': WHATEVER THE INPUT: true; the input reads as it did. -/
def fnExactEdgeCountSpec : ChangeSpec := { name := "fnExactEdgeCount", fn := fun _ => fun
  | [d] => { results := [.lit (.bool true)], args := [d] }
  | _ => none }
def fnExactEdgeCountRow : OpenClaim := { program := "ytokmojopajdbfaa", sum := "a929dacd9160d0f8f054bb07666dfde92468b1e0ca3ca909313875bd6966ec05", func := "loop.example/g00883/laws.FnExactEdgeCount", spec := "fnExactEdgeCount", apart := false }
def FnExactEdgeCountSaid : Prop := fnExactEdgeCountRow.holds Try.pinned (OpenSpec.ofChange fnExactEdgeCountSpec)

/-- ITS FALSE NEIGHBOUR: 'it returns false'. Refute it at one input. -/
def fnExactEdgeCountWrong : ChangeSpec := { name := "fnExactEdgeCount", fn := fun _ => fun
  | [d] => { results := [.lit (.bool false)], args := [d] }
  | _ => none }
def FnExactEdgeCountWrongFalsely : Prop := fnExactEdgeCountRow.holds Try.pinned (OpenSpec.ofChange fnExactEdgeCountWrong)

/-- 'laws.FnExactAreaTwice': WHATEVER THE INPUT: true; the input reads as it did. -/
def fnExactAreaTwiceSpec : ChangeSpec := { name := "fnExactAreaTwice", fn := fun _ => fun
  | [d] => { results := [.lit (.bool true)], args := [d] }
  | _ => none }
def fnExactAreaTwiceRow : OpenClaim := { program := "ytokmojopajdbfaa", sum := "a929dacd9160d0f8f054bb07666dfde92468b1e0ca3ca909313875bd6966ec05", func := "loop.example/g00883/laws.FnExactAreaTwice", spec := "fnExactAreaTwice", apart := false }
def FnExactAreaTwiceSaid : Prop := fnExactAreaTwiceRow.holds Try.pinned (OpenSpec.ofChange fnExactAreaTwiceSpec)

/-- ITS FALSE NEIGHBOUR: 'it returns false'. Refute it at one input. -/
def fnExactAreaTwiceWrong : ChangeSpec := { name := "fnExactAreaTwice", fn := fun _ => fun
  | [d] => { results := [.lit (.bool false)], args := [d] }
  | _ => none }
def FnExactAreaTwiceWrongFalsely : Prop := fnExactAreaTwiceRow.holds Try.pinned (OpenSpec.ofChange fnExactAreaTwiceWrong)

/- THE SECOND FORM. 'bulk': how many values and letters a reading holds, each counted each time it is reached (what is shared counts as often as it is met; a slice's spare places count too). A statement '..UptoSaid' is the law's where the arguments, and the package variables that the reading takes, are together of bulk at most 1048576: NARROWER than '..Said'. Prove '..Said' where nothing that the law and all that it calls make is longer than what came in: it says more and counts as full. Else prove '..UptoSaid'. A law counts once. -/
mutual
def uptoBulk {H : Type} : DataW H → Nat
  | .lit (.string bytes) => bytes.length + 1
  | .lit _ => 1
  | .nil => 1
  | .ptr d => uptoBulk d + 1
  | .slice elems spare => uptoBulkAll elems + uptoBulkAll spare + 1
  | .agg parts => uptoBulkAll parts + 1
  | .iface _ d => uptoBulk d + 1
  | .map entries => uptoBulkEntries entries + 1
  | .held _ => 1
def uptoBulkAll {H : Type} : List (DataW H) → Nat
  | [] => 0
  | d :: r => uptoBulk d + uptoBulkAll r
def uptoBulkEntries {H : Type} : List (Lit × DataW H) → Nat
  | [] => 0
  | x :: r => uptoBulkEntry x + uptoBulkEntries r
def uptoBulkEntry {H : Type} : Lit × DataW H → Nat
  | (.string bytes, d) => bytes.length + uptoBulk d + 1
  | (_, d) => uptoBulk d + 1
 end
def uptoSmall : (H : Type) → List (DataW H) → Bool := fun _ ds => decide (uptoBulkAll ds ≤ 1048576)
def OpenSpec.upto (s : _root_.Go.ChangeSpec) : _root_.Go.OpenSpec := { _root_.Go.OpenSpec.ofChange s with cond := some uptoSmall }

/-- 'laws.FnExactIsCorner', WHERE WHAT IT READS IS OF BULK AT MOST 1048576: true; the input reads as it did. -/
def fnExactIsCornerUptoRow : OpenClaim := { program := "ytokmojopajdbfaa", sum := "a929dacd9160d0f8f054bb07666dfde92468b1e0ca3ca909313875bd6966ec05", func := "loop.example/g00883/laws.FnExactIsCorner", spec := "fnExactIsCorner", apart := false, narrowed := true }
def FnExactIsCornerUptoSaid : Prop := fnExactIsCornerUptoRow.holds Try.pinned (OpenSpec.upto fnExactIsCornerSpec)

/-- 'laws.FnExactValidRing', WHERE WHAT IT READS IS OF BULK AT MOST 1048576: true; the input reads as it did. -/
def fnExactValidRingUptoRow : OpenClaim := { program := "ytokmojopajdbfaa", sum := "a929dacd9160d0f8f054bb07666dfde92468b1e0ca3ca909313875bd6966ec05", func := "loop.example/g00883/laws.FnExactValidRing", spec := "fnExactValidRing", apart := false, narrowed := true }
def FnExactValidRingUptoSaid : Prop := fnExactValidRingUptoRow.holds Try.pinned (OpenSpec.upto fnExactValidRingSpec)

/-- 'laws.FnExactInPixel', WHERE WHAT IT READS IS OF BULK AT MOST 1048576: true; the input reads as it did. -/
def fnExactInPixelUptoRow : OpenClaim := { program := "ytokmojopajdbfaa", sum := "a929dacd9160d0f8f054bb07666dfde92468b1e0ca3ca909313875bd6966ec05", func := "loop.example/g00883/laws.FnExactInPixel", spec := "fnExactInPixel", apart := false, narrowed := true }
def FnExactInPixelUptoSaid : Prop := fnExactInPixelUptoRow.holds Try.pinned (OpenSpec.upto fnExactInPixelSpec)

/-- 'laws.FnExactLinesMeet', WHERE WHAT IT READS IS OF BULK AT MOST 1048576: true; the input reads as it did. -/
def fnExactLinesMeetUptoRow : OpenClaim := { program := "ytokmojopajdbfaa", sum := "a929dacd9160d0f8f054bb07666dfde92468b1e0ca3ca909313875bd6966ec05", func := "loop.example/g00883/laws.FnExactLinesMeet", spec := "fnExactLinesMeet", apart := false, narrowed := true }
def FnExactLinesMeetUptoSaid : Prop := fnExactLinesMeetUptoRow.holds Try.pinned (OpenSpec.upto fnExactLinesMeetSpec)

/-- 'laws.FnExactRingTwice', WHERE WHAT IT READS IS OF BULK AT MOST 1048576: true; the input reads as it did. -/
def fnExactRingTwiceUptoRow : OpenClaim := { program := "ytokmojopajdbfaa", sum := "a929dacd9160d0f8f054bb07666dfde92468b1e0ca3ca909313875bd6966ec05", func := "loop.example/g00883/laws.FnExactRingTwice", spec := "fnExactRingTwice", apart := false, narrowed := true }
def FnExactRingTwiceUptoSaid : Prop := fnExactRingTwiceUptoRow.holds Try.pinned (OpenSpec.upto fnExactRingTwiceSpec)

/-- 'laws.FnExactRingBounds', WHERE WHAT IT READS IS OF BULK AT MOST 1048576: true; the input reads as it did. -/
def fnExactRingBoundsUptoRow : OpenClaim := { program := "ytokmojopajdbfaa", sum := "a929dacd9160d0f8f054bb07666dfde92468b1e0ca3ca909313875bd6966ec05", func := "loop.example/g00883/laws.FnExactRingBounds", spec := "fnExactRingBounds", apart := false, narrowed := true }
def FnExactRingBoundsUptoSaid : Prop := fnExactRingBoundsUptoRow.holds Try.pinned (OpenSpec.upto fnExactRingBoundsSpec)

/-- 'laws.FnExactSameRegion', WHERE WHAT IT READS IS OF BULK AT MOST 1048576: true; the input reads as it did. -/
def fnExactSameRegionUptoRow : OpenClaim := { program := "ytokmojopajdbfaa", sum := "a929dacd9160d0f8f054bb07666dfde92468b1e0ca3ca909313875bd6966ec05", func := "loop.example/g00883/laws.FnExactSameRegion", spec := "fnExactSameRegion", unfollowed := true, recurses := true, apart := false, narrowed := true }
def FnExactSameRegionUptoSaid : Prop := fnExactSameRegionUptoRow.holds Try.pinned (OpenSpec.upto fnExactSameRegionSpec)

/-- 'laws.FnExactValidRegion', WHERE WHAT IT READS IS OF BULK AT MOST 1048576: true; the input reads as it did. -/
def fnExactValidRegionUptoRow : OpenClaim := { program := "ytokmojopajdbfaa", sum := "a929dacd9160d0f8f054bb07666dfde92468b1e0ca3ca909313875bd6966ec05", func := "loop.example/g00883/laws.FnExactValidRegion", spec := "fnExactValidRegion", apart := false, narrowed := true }
def FnExactValidRegionUptoSaid : Prop := fnExactValidRegionUptoRow.holds Try.pinned (OpenSpec.upto fnExactValidRegionSpec)

/-- 'laws.FnCrossings', WHERE WHAT IT READS IS OF BULK AT MOST 1048576: true; the input reads as it did. -/
def fnCrossingsUptoRow : OpenClaim := { program := "ytokmojopajdbfaa", sum := "a929dacd9160d0f8f054bb07666dfde92468b1e0ca3ca909313875bd6966ec05", func := "loop.example/g00883/laws.FnCrossings", spec := "fnCrossings", apart := false, narrowed := true }
def FnCrossingsUptoSaid : Prop := fnCrossingsUptoRow.holds Try.pinned (OpenSpec.upto fnCrossingsSpec)

/-- 'laws.FnExactSimplifyRing', WHERE WHAT IT READS IS OF BULK AT MOST 1048576: true; the input reads as it did. -/
def fnExactSimplifyRingUptoRow : OpenClaim := { program := "ytokmojopajdbfaa", sum := "a929dacd9160d0f8f054bb07666dfde92468b1e0ca3ca909313875bd6966ec05", func := "loop.example/g00883/laws.FnExactSimplifyRing", spec := "fnExactSimplifyRing", apart := false, narrowed := true }
def FnExactSimplifyRingUptoSaid : Prop := fnExactSimplifyRingUptoRow.holds Try.pinned (OpenSpec.upto fnExactSimplifyRingSpec)

/-- 'laws.FnExactEdgeCount', WHERE WHAT IT READS IS OF BULK AT MOST 1048576: true; the input reads as it did. -/
def fnExactEdgeCountUptoRow : OpenClaim := { program := "ytokmojopajdbfaa", sum := "a929dacd9160d0f8f054bb07666dfde92468b1e0ca3ca909313875bd6966ec05", func := "loop.example/g00883/laws.FnExactEdgeCount", spec := "fnExactEdgeCount", apart := false, narrowed := true }
def FnExactEdgeCountUptoSaid : Prop := fnExactEdgeCountUptoRow.holds Try.pinned (OpenSpec.upto fnExactEdgeCountSpec)

/-- 'laws.FnExactAreaTwice', WHERE WHAT IT READS IS OF BULK AT MOST 1048576: true; the input reads as it did. -/
def fnExactAreaTwiceUptoRow : OpenClaim := { program := "ytokmojopajdbfaa", sum := "a929dacd9160d0f8f054bb07666dfde92468b1e0ca3ca909313875bd6966ec05", func := "loop.example/g00883/laws.FnExactAreaTwice", spec := "fnExactAreaTwice", apart := false, narrowed := true }
def FnExactAreaTwiceUptoSaid : Prop := fnExactAreaTwiceUptoRow.holds Try.pinned (OpenSpec.upto fnExactAreaTwiceSpec)

end Rows
end Go.Proofs.Ytokmojopajdbfaa
