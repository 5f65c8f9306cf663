/-
  No cell of these rows narrows 'for every input' (looked for: loops, veiled, ifaces, maps, wideKeys, modest, calm, conditions, laid).
  DERIVED. THE GIVEN ROWS OF THIS SEAT. 11 by the template 'for every input the law returns true; each argument reads behind the call as it read before'; 0 by the template 'total and deterministic' (their statements: YtnalgllmdpcjcaaTotals.lean).
  GIVEN WITH THE SEED: the statements are not yours to turn. If you find one false, say at which input.
  Laid BY PROGRAM, IN A SANDBOX (cutbox-rows.mjs): the forced cells as the released guide's own fill.sh prints them over the translation 590f697578d52259… (all of the seat's roots in one cut). By AI agents, Wed Nov 11 2026. No macro, syntax, notation, axiom, sorry.
-/
import Derived.Test.YtnalgllmdpcjcaaChecked
import GoSem.Claim
import GoSem.ClaimJoined
import GoSem.ClaimMapViews
import Derived.JoinedTies
import Derived.KernelRfl
namespace Go.Proofs.Ytnalgllmdpcjcaa
/- THE CELL 'sum', in the pinned program and in every row, IS THE sha256 OF THE DUMP (.gsa) THAT YtnalgllmdpcjcaaProg.lean LOADS. Nothing in Lean hashes anything: it is a label: what it is worth is what the hold of that sum in a sandbox is worth. -/
noncomputable def Try.pinned : Pinned := { name := "ytnalgllmdpcjcaa", sum := "590f697578d522593e779c10bfa2065dc0defe3da216d35256eed4ae8fa3a810", checked := Try.checked }
namespace Rows
def none {H : Type} : Left H := { results := [], args := [] }

/-- 'laws.FnCrossings': WHATEVER THE INPUT: true; the input reads as it did. -/
def fnCrossingsSpec : ChangeSpec := { name := "fnCrossings", fn := fun _ => fun
  | [d] => { results := [.lit (.bool true)], args := [d] }
  | _ => none }
def fnCrossingsRow : OpenClaim := { program := "ytnalgllmdpcjcaa", sum := "590f697578d522593e779c10bfa2065dc0defe3da216d35256eed4ae8fa3a810", func := "loop.example/g00883/laws.FnCrossings", spec := "fnCrossings", apart := false }
def FnCrossingsSaid : Prop := fnCrossingsRow.holds Try.pinned (OpenSpec.ofChange fnCrossingsSpec)

/-- ITS FALSE NEIGHBOUR: 'it returns false'. Refute it at one input. -/
def fnCrossingsWrong : ChangeSpec := { name := "fnCrossings", fn := fun _ => fun
  | [d] => { results := [.lit (.bool false)], args := [d] }
  | _ => none }
def FnCrossingsWrongFalsely : Prop := fnCrossingsRow.holds Try.pinned (OpenSpec.ofChange fnCrossingsWrong)

/-- 'laws.FnExactSimplifyRing': WHATEVER THE INPUT: true; the input reads as it did. -/
def fnExactSimplifyRingSpec : ChangeSpec := { name := "fnExactSimplifyRing", fn := fun _ => fun
  | [d] => { results := [.lit (.bool true)], args := [d] }
  | _ => none }
def fnExactSimplifyRingRow : OpenClaim := { program := "ytnalgllmdpcjcaa", sum := "590f697578d522593e779c10bfa2065dc0defe3da216d35256eed4ae8fa3a810", func := "loop.example/g00883/laws.FnExactSimplifyRing", spec := "fnExactSimplifyRing", apart := false }
def FnExactSimplifyRingSaid : Prop := fnExactSimplifyRingRow.holds Try.pinned (OpenSpec.ofChange fnExactSimplifyRingSpec)

/-- ITS FALSE NEIGHBOUR: 'it returns false'. Refute it at one input. -/
def fnExactSimplifyRingWrong : ChangeSpec := { name := "fnExactSimplifyRing", fn := fun _ => fun
  | [d] => { results := [.lit (.bool false)], args := [d] }
  | _ => none }
def FnExactSimplifyRingWrongFalsely : Prop := fnExactSimplifyRingRow.holds Try.pinned (OpenSpec.ofChange fnExactSimplifyRingWrong)

/-- 'laws.FnExactRegionBounds': WHATEVER THE INPUT: true; the input reads as it did. -/
def fnExactRegionBoundsSpec : ChangeSpec := { name := "fnExactRegionBounds", fn := fun _ => fun
  | [d] => { results := [.lit (.bool true)], args := [d] }
  | _ => none }
def fnExactRegionBoundsRow : OpenClaim := { program := "ytnalgllmdpcjcaa", sum := "590f697578d522593e779c10bfa2065dc0defe3da216d35256eed4ae8fa3a810", func := "loop.example/g00883/laws.FnExactRegionBounds", spec := "fnExactRegionBounds", apart := false }
def FnExactRegionBoundsSaid : Prop := fnExactRegionBoundsRow.holds Try.pinned (OpenSpec.ofChange fnExactRegionBoundsSpec)

/-- ITS FALSE NEIGHBOUR: 'it returns false'. Refute it at one input. -/
def fnExactRegionBoundsWrong : ChangeSpec := { name := "fnExactRegionBounds", fn := fun _ => fun
  | [d] => { results := [.lit (.bool false)], args := [d] }
  | _ => none }
def FnExactRegionBoundsWrongFalsely : Prop := fnExactRegionBoundsRow.holds Try.pinned (OpenSpec.ofChange fnExactRegionBoundsWrong)

/-- 'laws.FnExactThinRing': WHATEVER THE INPUT: true; the input reads as it did. -/
def fnExactThinRingSpec : ChangeSpec := { name := "fnExactThinRing", fn := fun _ => fun
  | [d1, d2] => { results := [.lit (.bool true)], args := [d1, d2] }
  | _ => none }
def fnExactThinRingRow : OpenClaim := { program := "ytnalgllmdpcjcaa", sum := "590f697578d522593e779c10bfa2065dc0defe3da216d35256eed4ae8fa3a810", func := "loop.example/g00883/laws.FnExactThinRing", spec := "fnExactThinRing", recurses := true, apart := false }
def FnExactThinRingSaid : Prop := fnExactThinRingRow.holds Try.pinned (OpenSpec.ofChange fnExactThinRingSpec)

/-- ITS FALSE NEIGHBOUR: 'it returns false'. Refute it at one input. -/
def fnExactThinRingWrong : ChangeSpec := { name := "fnExactThinRing", fn := fun _ => fun
  | [d1, d2] => { results := [.lit (.bool false)], args := [d1, d2] }
  | _ => none }
def FnExactThinRingWrongFalsely : Prop := fnExactThinRingRow.holds Try.pinned (OpenSpec.ofChange fnExactThinRingWrong)

/-- 'laws.FnExactReverseRegion': WHATEVER THE INPUT: true; the input reads as it did. -/
def fnExactReverseRegionSpec : ChangeSpec := { name := "fnExactReverseRegion", fn := fun _ => fun
  | [d] => { results := [.lit (.bool true)], args := [d] }
  | _ => none }
def fnExactReverseRegionRow : OpenClaim := { program := "ytnalgllmdpcjcaa", sum := "590f697578d522593e779c10bfa2065dc0defe3da216d35256eed4ae8fa3a810", func := "loop.example/g00883/laws.FnExactReverseRegion", spec := "fnExactReverseRegion", apart := false }
def FnExactReverseRegionSaid : Prop := fnExactReverseRegionRow.holds Try.pinned (OpenSpec.ofChange fnExactReverseRegionSpec)

/-- ITS FALSE NEIGHBOUR: 'it returns false'. Refute it at one input. -/
def fnExactReverseRegionWrong : ChangeSpec := { name := "fnExactReverseRegion", fn := fun _ => fun
  | [d] => { results := [.lit (.bool false)], args := [d] }
  | _ => none }
def FnExactReverseRegionWrongFalsely : Prop := fnExactReverseRegionRow.holds Try.pinned (OpenSpec.ofChange fnExactReverseRegionWrong)

/-- 'laws.FnExactJoinRegions': WHATEVER THE INPUT: true; the input reads as it did. -/
def fnExactJoinRegionsSpec : ChangeSpec := { name := "fnExactJoinRegions", fn := fun _ => fun
  | [d1, d2] => { results := [.lit (.bool true)], args := [d1, d2] }
  | _ => none }
def fnExactJoinRegionsRow : OpenClaim := { program := "ytnalgllmdpcjcaa", sum := "590f697578d522593e779c10bfa2065dc0defe3da216d35256eed4ae8fa3a810", func := "loop.example/g00883/laws.FnExactJoinRegions", spec := "fnExactJoinRegions", apart := false }
def FnExactJoinRegionsSaid : Prop := fnExactJoinRegionsRow.holds Try.pinned (OpenSpec.ofChange fnExactJoinRegionsSpec)

/-- ITS FALSE NEIGHBOUR: 'it returns false'. Refute it at one input. -/
def fnExactJoinRegionsWrong : ChangeSpec := { name := "fnExactJoinRegions", fn := fun _ => fun
  | [d1, d2] => { results := [.lit (.bool false)], args := [d1, d2] }
  | _ => none }
def FnExactJoinRegionsWrongFalsely : Prop := fnExactJoinRegionsRow.holds Try.pinned (OpenSpec.ofChange fnExactJoinRegionsWrong)

/-- 'laws.FnExactIsSnapped': WHATEVER THE INPUT: true; the input reads as it did. -/
def fnExactIsSnappedSpec : ChangeSpec := { name := "fnExactIsSnapped", fn := fun _ => fun
  | [d] => { results := [.lit (.bool true)], args := [d] }
  | _ => none }
def fnExactIsSnappedRow : OpenClaim := { program := "ytnalgllmdpcjcaa", sum := "590f697578d522593e779c10bfa2065dc0defe3da216d35256eed4ae8fa3a810", func := "loop.example/g00883/laws.FnExactIsSnapped", spec := "fnExactIsSnapped", apart := false }
def FnExactIsSnappedSaid : Prop := fnExactIsSnappedRow.holds Try.pinned (OpenSpec.ofChange fnExactIsSnappedSpec)

/-- ITS FALSE NEIGHBOUR: 'it returns false'. Refute it at one input. -/
def fnExactIsSnappedWrong : ChangeSpec := { name := "fnExactIsSnapped", fn := fun _ => fun
  | [d] => { results := [.lit (.bool false)], args := [d] }
  | _ => none }
def FnExactIsSnappedWrongFalsely : Prop := fnExactIsSnappedRow.holds Try.pinned (OpenSpec.ofChange fnExactIsSnappedWrong)

/-- 'laws.FnExactSnapEdge': WHATEVER THE INPUT: true; the input reads as it did. -/
def fnExactSnapEdgeSpec : ChangeSpec := { name := "fnExactSnapEdge", fn := fun _ => fun
  | [d1, d2, d3] => { results := [.lit (.bool true)], args := [d1, d2, d3] }
  | _ => none }
def fnExactSnapEdgeRow : OpenClaim := { program := "ytnalgllmdpcjcaa", sum := "590f697578d522593e779c10bfa2065dc0defe3da216d35256eed4ae8fa3a810", func := "loop.example/g00883/laws.FnExactSnapEdge", spec := "fnExactSnapEdge", unfollowed := true, recurses := true, apart := false }
def FnExactSnapEdgeSaid : Prop := fnExactSnapEdgeRow.holds Try.pinned (OpenSpec.ofChange fnExactSnapEdgeSpec)

/-- ITS FALSE NEIGHBOUR: 'it returns false'. Refute it at one input. -/
def fnExactSnapEdgeWrong : ChangeSpec := { name := "fnExactSnapEdge", fn := fun _ => fun
  | [d1, d2, d3] => { results := [.lit (.bool false)], args := [d1, d2, d3] }
  | _ => none }
def FnExactSnapEdgeWrongFalsely : Prop := fnExactSnapEdgeRow.holds Try.pinned (OpenSpec.ofChange fnExactSnapEdgeWrong)

/-- 'laws.FnExactTidyRegion': WHATEVER THE INPUT: true; the input reads as it did. -/
def fnExactTidyRegionSpec : ChangeSpec := { name := "fnExactTidyRegion", fn := fun _ => fun
  | [d] => { results := [.lit (.bool true)], args := [d] }
  | _ => none }
def fnExactTidyRegionRow : OpenClaim := { program := "ytnalgllmdpcjcaa", sum := "590f697578d522593e779c10bfa2065dc0defe3da216d35256eed4ae8fa3a810", func := "loop.example/g00883/laws.FnExactTidyRegion", spec := "fnExactTidyRegion", unfollowed := true, recurses := true, apart := false }
def FnExactTidyRegionSaid : Prop := fnExactTidyRegionRow.holds Try.pinned (OpenSpec.ofChange fnExactTidyRegionSpec)

/-- ITS FALSE NEIGHBOUR: 'it returns false'. Refute it at one input. -/
def fnExactTidyRegionWrong : ChangeSpec := { name := "fnExactTidyRegion", fn := fun _ => fun
  | [d] => { results := [.lit (.bool false)], args := [d] }
  | _ => none }
def FnExactTidyRegionWrongFalsely : Prop := fnExactTidyRegionRow.holds Try.pinned (OpenSpec.ofChange fnExactTidyRegionWrong)

/-- 'laws.FnExactHotPoints': WHATEVER THE INPUT: true; the input reads as it did. -/
def fnExactHotPointsSpec : ChangeSpec := { name := "fnExactHotPoints", fn := fun _ => fun
  | [d] => { results := [.lit (.bool true)], args := [d] }
  | _ => none }
def fnExactHotPointsRow : OpenClaim := { program := "ytnalgllmdpcjcaa", sum := "590f697578d522593e779c10bfa2065dc0defe3da216d35256eed4ae8fa3a810", func := "loop.example/g00883/laws.FnExactHotPoints", spec := "fnExactHotPoints", unfollowed := true, recurses := true, apart := false }
def FnExactHotPointsSaid : Prop := fnExactHotPointsRow.holds Try.pinned (OpenSpec.ofChange fnExactHotPointsSpec)

/-- ITS FALSE NEIGHBOUR: 'it returns false'. Refute it at one input. -/
def fnExactHotPointsWrong : ChangeSpec := { name := "fnExactHotPoints", fn := fun _ => fun
  | [d] => { results := [.lit (.bool false)], args := [d] }
  | _ => none }
def FnExactHotPointsWrongFalsely : Prop := fnExactHotPointsRow.holds Try.pinned (OpenSpec.ofChange fnExactHotPointsWrong)

/-- 'laws.FnExactNetEdges': WHATEVER THE INPUT: true; the input reads as it did. -/
def fnExactNetEdgesSpec : ChangeSpec := { name := "fnExactNetEdges", fn := fun _ => fun
  | [d] => { results := [.lit (.bool true)], args := [d] }
  | _ => none }
def fnExactNetEdgesRow : OpenClaim := { program := "ytnalgllmdpcjcaa", sum := "590f697578d522593e779c10bfa2065dc0defe3da216d35256eed4ae8fa3a810", func := "loop.example/g00883/laws.FnExactNetEdges", spec := "fnExactNetEdges", unfollowed := true, recurses := true, apart := false }
def FnExactNetEdgesSaid : Prop := fnExactNetEdgesRow.holds Try.pinned (OpenSpec.ofChange fnExactNetEdgesSpec)

/-- ITS FALSE NEIGHBOUR: 'it returns false'. Refute it at one input. -/
def fnExactNetEdgesWrong : ChangeSpec := { name := "fnExactNetEdges", fn := fun _ => fun
  | [d] => { results := [.lit (.bool false)], args := [d] }
  | _ => none }
def FnExactNetEdgesWrongFalsely : Prop := fnExactNetEdgesRow.holds Try.pinned (OpenSpec.ofChange fnExactNetEdgesWrong)

/- THE SECOND FORM. 'bulk': how many values and letters a reading holds, each counted each time it is reached (what is shared counts as often as it is met; a slice's spare places count too). A statement '..UptoSaid' is the law's where the arguments, and the package variables that the reading takes, are together of bulk at most 1048576: NARROWER than '..Said'. Prove '..Said' where nothing that the law and all that it calls make is longer than what came in: it says more and counts as full. Else prove '..UptoSaid'. A law counts once. -/
mutual
def uptoBulk {H : Type} : DataW H → Nat
  | .lit (.string bytes) => bytes.length + 1
  | .lit _ => 1
  | .nil => 1
  | .ptr d => uptoBulk d + 1
  | .slice elems spare => uptoBulkAll elems + uptoBulkAll spare + 1
  | .agg parts => uptoBulkAll parts + 1
  | .iface _ d => uptoBulk d + 1
  | .map entries => uptoBulkEntries entries + 1
  | .held _ => 1
def uptoBulkAll {H : Type} : List (DataW H) → Nat
  | [] => 0
  | d :: r => uptoBulk d + uptoBulkAll r
def uptoBulkEntries {H : Type} : List (Lit × DataW H) → Nat
  | [] => 0
  | x :: r => uptoBulkEntry x + uptoBulkEntries r
def uptoBulkEntry {H : Type} : Lit × DataW H → Nat
  | (.string bytes, d) => bytes.length + uptoBulk d + 1
  | (_, d) => uptoBulk d + 1
 end
def uptoSmall : (H : Type) → List (DataW H) → Bool := fun _ ds => decide (uptoBulkAll ds ≤ 1048576)
def OpenSpec.upto (s : _root_.Go.ChangeSpec) : _root_.Go.OpenSpec := { _root_.Go.OpenSpec.ofChange s with cond := some uptoSmall }

/-- 'laws.FnCrossings', WHERE WHAT IT READS IS OF BULK AT MOST 1048576: true; the input reads as it did. -/
def fnCrossingsUptoRow : OpenClaim := { program := "ytnalgllmdpcjcaa", sum := "590f697578d522593e779c10bfa2065dc0defe3da216d35256eed4ae8fa3a810", func := "loop.example/g00883/laws.FnCrossings", spec := "fnCrossings", apart := false, narrowed := true }
def FnCrossingsUptoSaid : Prop := fnCrossingsUptoRow.holds Try.pinned (OpenSpec.upto fnCrossingsSpec)

/-- 'laws.FnExactSimplifyRing', WHERE WHAT IT READS IS OF BULK AT MOST 1048576: true; the input reads as it did. -/
def fnExactSimplifyRingUptoRow : OpenClaim := { program := "ytnalgllmdpcjcaa", sum := "590f697578d522593e779c10bfa2065dc0defe3da216d35256eed4ae8fa3a810", func := "loop.example/g00883/laws.FnExactSimplifyRing", spec := "fnExactSimplifyRing", apart := false, narrowed := true }
def FnExactSimplifyRingUptoSaid : Prop := fnExactSimplifyRingUptoRow.holds Try.pinned (OpenSpec.upto fnExactSimplifyRingSpec)

/-- 'laws.FnExactRegionBounds', WHERE WHAT IT READS IS OF BULK AT MOST 1048576: true; the input reads as it did. -/
def fnExactRegionBoundsUptoRow : OpenClaim := { program := "ytnalgllmdpcjcaa", sum := "590f697578d522593e779c10bfa2065dc0defe3da216d35256eed4ae8fa3a810", func := "loop.example/g00883/laws.FnExactRegionBounds", spec := "fnExactRegionBounds", apart := false, narrowed := true }
def FnExactRegionBoundsUptoSaid : Prop := fnExactRegionBoundsUptoRow.holds Try.pinned (OpenSpec.upto fnExactRegionBoundsSpec)

/-- 'laws.FnExactThinRing', WHERE WHAT IT READS IS OF BULK AT MOST 1048576: true; the input reads as it did. -/
def fnExactThinRingUptoRow : OpenClaim := { program := "ytnalgllmdpcjcaa", sum := "590f697578d522593e779c10bfa2065dc0defe3da216d35256eed4ae8fa3a810", func := "loop.example/g00883/laws.FnExactThinRing", spec := "fnExactThinRing", recurses := true, apart := false, narrowed := true }
def FnExactThinRingUptoSaid : Prop := fnExactThinRingUptoRow.holds Try.pinned (OpenSpec.upto fnExactThinRingSpec)

/-- 'laws.FnExactReverseRegion', WHERE WHAT IT READS IS OF BULK AT MOST 1048576: true; the input reads as it did. -/
def fnExactReverseRegionUptoRow : OpenClaim := { program := "ytnalgllmdpcjcaa", sum := "590f697578d522593e779c10bfa2065dc0defe3da216d35256eed4ae8fa3a810", func := "loop.example/g00883/laws.FnExactReverseRegion", spec := "fnExactReverseRegion", apart := false, narrowed := true }
def FnExactReverseRegionUptoSaid : Prop := fnExactReverseRegionUptoRow.holds Try.pinned (OpenSpec.upto fnExactReverseRegionSpec)

/-- 'laws.FnExactJoinRegions', WHERE WHAT IT READS IS OF BULK AT MOST 1048576: true; the input reads as it did. -/
def fnExactJoinRegionsUptoRow : OpenClaim := { program := "ytnalgllmdpcjcaa", sum := "590f697578d522593e779c10bfa2065dc0defe3da216d35256eed4ae8fa3a810", func := "loop.example/g00883/laws.FnExactJoinRegions", spec := "fnExactJoinRegions", apart := false, narrowed := true }
def FnExactJoinRegionsUptoSaid : Prop := fnExactJoinRegionsUptoRow.holds Try.pinned (OpenSpec.upto fnExactJoinRegionsSpec)

/-- 'laws.FnExactIsSnapped', WHERE WHAT IT READS IS OF BULK AT MOST 1048576: true; the input reads as it did. -/
def fnExactIsSnappedUptoRow : OpenClaim := { program := "ytnalgllmdpcjcaa", sum := "590f697578d522593e779c10bfa2065dc0defe3da216d35256eed4ae8fa3a810", func := "loop.example/g00883/laws.FnExactIsSnapped", spec := "fnExactIsSnapped", apart := false, narrowed := true }
def FnExactIsSnappedUptoSaid : Prop := fnExactIsSnappedUptoRow.holds Try.pinned (OpenSpec.upto fnExactIsSnappedSpec)

/-- 'laws.FnExactSnapEdge', WHERE WHAT IT READS IS OF BULK AT MOST 1048576: true; the input reads as it did. -/
def fnExactSnapEdgeUptoRow : OpenClaim := { program := "ytnalgllmdpcjcaa", sum := "590f697578d522593e779c10bfa2065dc0defe3da216d35256eed4ae8fa3a810", func := "loop.example/g00883/laws.FnExactSnapEdge", spec := "fnExactSnapEdge", unfollowed := true, recurses := true, apart := false, narrowed := true }
def FnExactSnapEdgeUptoSaid : Prop := fnExactSnapEdgeUptoRow.holds Try.pinned (OpenSpec.upto fnExactSnapEdgeSpec)

/-- 'laws.FnExactTidyRegion', WHERE WHAT IT READS IS OF BULK AT MOST 1048576: true; the input reads as it did. -/
def fnExactTidyRegionUptoRow : OpenClaim := { program := "ytnalgllmdpcjcaa", sum := "590f697578d522593e779c10bfa2065dc0defe3da216d35256eed4ae8fa3a810", func := "loop.example/g00883/laws.FnExactTidyRegion", spec := "fnExactTidyRegion", unfollowed := true, recurses := true, apart := false, narrowed := true }
def FnExactTidyRegionUptoSaid : Prop := fnExactTidyRegionUptoRow.holds Try.pinned (OpenSpec.upto fnExactTidyRegionSpec)

/-- 'laws.FnExactHotPoints', WHERE WHAT IT READS IS OF BULK AT MOST 1048576: true; the input reads as it did. -/
def fnExactHotPointsUptoRow : OpenClaim := { program := "ytnalgllmdpcjcaa", sum := "590f697578d522593e779c10bfa2065dc0defe3da216d35256eed4ae8fa3a810", func := "loop.example/g00883/laws.FnExactHotPoints", spec := "fnExactHotPoints", unfollowed := true, recurses := true, apart := false, narrowed := true }
def FnExactHotPointsUptoSaid : Prop := fnExactHotPointsUptoRow.holds Try.pinned (OpenSpec.upto fnExactHotPointsSpec)

/-- 'laws.FnExactNetEdges', WHERE WHAT IT READS IS OF BULK AT MOST 1048576: true; the input reads as it did. -/
def fnExactNetEdgesUptoRow : OpenClaim := { program := "ytnalgllmdpcjcaa", sum := "590f697578d522593e779c10bfa2065dc0defe3da216d35256eed4ae8fa3a810", func := "loop.example/g00883/laws.FnExactNetEdges", spec := "fnExactNetEdges", unfollowed := true, recurses := true, apart := false, narrowed := true }
def FnExactNetEdgesUptoSaid : Prop := fnExactNetEdgesUptoRow.holds Try.pinned (OpenSpec.upto fnExactNetEdgesSpec)

end Rows
end Go.Proofs.Ytnalgllmdpcjcaa
