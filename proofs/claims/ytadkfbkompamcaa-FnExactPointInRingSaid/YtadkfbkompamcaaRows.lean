/-
  No cell of these rows narrows 'for every input' (looked for: loops, veiled, ifaces, maps, wideKeys, modest, calm, conditions, laid).
  DERIVED. THE GIVEN ROWS OF THIS SEAT. 12 by the template 'for every input the law returns true; each argument reads behind the call as it read before'; 0 by the template 'total and deterministic' (their statements: YtadkfbkompamcaaTotals.lean).
  GIVEN WITH THE SEED: the statements are not yours to turn. If you find one false, say at which input.
  Laid BY PROGRAM, IN A SANDBOX (cutbox-rows.mjs): the forced cells as the released guide's own fill.sh prints them over the translation dfbfa053cd083709… (all of the seat's roots in one cut). By AI agents, Wed Nov 11 2026. No macro, syntax, notation, axiom, sorry.
-/
import Derived.Test.YtadkfbkompamcaaChecked
import GoSem.Claim
import GoSem.ClaimJoined
import GoSem.ClaimMapViews
import Derived.JoinedTies
import Derived.KernelRfl
namespace Go.Proofs.Ytadkfbkompamcaa
/- THE CELL 'sum', in the pinned program and in every row, IS THE sha256 OF THE DUMP (.gsa) THAT YtadkfbkompamcaaProg.lean LOADS. Nothing in Lean hashes anything: it is a label: what it is worth is what the hold of that sum in a sandbox is worth. -/
noncomputable def Try.pinned : Pinned := { name := "ytadkfbkompamcaa", sum := "dfbfa053cd08370944316e32aa10cfbe23c9e808cf477d14bdba6ed171d825a0", checked := Try.checked }
namespace Rows
def none {H : Type} : Left H := { results := [], args := [] }

/-- 'laws.FnExactRegionBounds': WHATEVER THE INPUT: true; the input reads as it did. -/
def fnExactRegionBoundsSpec : ChangeSpec := { name := "fnExactRegionBounds", fn := fun _ => fun
  | [d] => { results := [.lit (.bool true)], args := [d] }
  | _ => none }
def fnExactRegionBoundsRow : OpenClaim := { program := "ytadkfbkompamcaa", sum := "dfbfa053cd08370944316e32aa10cfbe23c9e808cf477d14bdba6ed171d825a0", func := "loop.example/g00883/laws.FnExactRegionBounds", spec := "fnExactRegionBounds", apart := false }
def FnExactRegionBoundsSaid : Prop := fnExactRegionBoundsRow.holds Try.pinned (OpenSpec.ofChange fnExactRegionBoundsSpec)

/-- ITS FALSE NEIGHBOUR: 'it returns false'. Refute it at one input. -/
def fnExactRegionBoundsWrong : ChangeSpec := { name := "fnExactRegionBounds", fn := fun _ => fun
  | [d] => { results := [.lit (.bool false)], args := [d] }
  | _ => none }
def FnExactRegionBoundsWrongFalsely : Prop := fnExactRegionBoundsRow.holds Try.pinned (OpenSpec.ofChange fnExactRegionBoundsWrong)

/-- 'laws.FnExactPointInRing': WHATEVER THE INPUT: true; the input reads as it did. -/
def fnExactPointInRingSpec : ChangeSpec := { name := "fnExactPointInRing", fn := fun _ => fun
  | [d1, d2] => { results := [.lit (.bool true)], args := [d1, d2] }
  | _ => none }
def fnExactPointInRingRow : OpenClaim := { program := "ytadkfbkompamcaa", sum := "dfbfa053cd08370944316e32aa10cfbe23c9e808cf477d14bdba6ed171d825a0", func := "loop.example/g00883/laws.FnExactPointInRing", spec := "fnExactPointInRing", unfollowed := true, recurses := true, apart := false }
def FnExactPointInRingSaid : Prop := fnExactPointInRingRow.holds Try.pinned (OpenSpec.ofChange fnExactPointInRingSpec)

/-- ITS FALSE NEIGHBOUR: 'it returns false'. Refute it at one input. -/
def fnExactPointInRingWrong : ChangeSpec := { name := "fnExactPointInRing", fn := fun _ => fun
  | [d1, d2] => { results := [.lit (.bool false)], args := [d1, d2] }
  | _ => none }
def FnExactPointInRingWrongFalsely : Prop := fnExactPointInRingRow.holds Try.pinned (OpenSpec.ofChange fnExactPointInRingWrong)

/-- 'laws.FnExactThinRing': WHATEVER THE INPUT: true; the input reads as it did. -/
def fnExactThinRingSpec : ChangeSpec := { name := "fnExactThinRing", fn := fun _ => fun
  | [d1, d2] => { results := [.lit (.bool true)], args := [d1, d2] }
  | _ => none }
def fnExactThinRingRow : OpenClaim := { program := "ytadkfbkompamcaa", sum := "dfbfa053cd08370944316e32aa10cfbe23c9e808cf477d14bdba6ed171d825a0", func := "loop.example/g00883/laws.FnExactThinRing", spec := "fnExactThinRing", recurses := true, apart := false }
def FnExactThinRingSaid : Prop := fnExactThinRingRow.holds Try.pinned (OpenSpec.ofChange fnExactThinRingSpec)

/-- ITS FALSE NEIGHBOUR: 'it returns false'. Refute it at one input. -/
def fnExactThinRingWrong : ChangeSpec := { name := "fnExactThinRing", fn := fun _ => fun
  | [d1, d2] => { results := [.lit (.bool false)], args := [d1, d2] }
  | _ => none }
def FnExactThinRingWrongFalsely : Prop := fnExactThinRingRow.holds Try.pinned (OpenSpec.ofChange fnExactThinRingWrong)

/-- 'laws.FnExactReverseRegion': WHATEVER THE INPUT: true; the input reads as it did. -/
def fnExactReverseRegionSpec : ChangeSpec := { name := "fnExactReverseRegion", fn := fun _ => fun
  | [d] => { results := [.lit (.bool true)], args := [d] }
  | _ => none }
def fnExactReverseRegionRow : OpenClaim := { program := "ytadkfbkompamcaa", sum := "dfbfa053cd08370944316e32aa10cfbe23c9e808cf477d14bdba6ed171d825a0", func := "loop.example/g00883/laws.FnExactReverseRegion", spec := "fnExactReverseRegion", apart := false }
def FnExactReverseRegionSaid : Prop := fnExactReverseRegionRow.holds Try.pinned (OpenSpec.ofChange fnExactReverseRegionSpec)

/-- ITS FALSE NEIGHBOUR: 'it returns false'. Refute it at one input. -/
def fnExactReverseRegionWrong : ChangeSpec := { name := "fnExactReverseRegion", fn := fun _ => fun
  | [d] => { results := [.lit (.bool false)], args := [d] }
  | _ => none }
def FnExactReverseRegionWrongFalsely : Prop := fnExactReverseRegionRow.holds Try.pinned (OpenSpec.ofChange fnExactReverseRegionWrong)

/-- 'laws.FnExactJoinRegions': WHATEVER THE INPUT: true; the input reads as it did. -/
def fnExactJoinRegionsSpec : ChangeSpec := { name := "fnExactJoinRegions", fn := fun _ => fun
  | [d1, d2] => { results := [.lit (.bool true)], args := [d1, d2] }
  | _ => none }
def fnExactJoinRegionsRow : OpenClaim := { program := "ytadkfbkompamcaa", sum := "dfbfa053cd08370944316e32aa10cfbe23c9e808cf477d14bdba6ed171d825a0", func := "loop.example/g00883/laws.FnExactJoinRegions", spec := "fnExactJoinRegions", apart := false }
def FnExactJoinRegionsSaid : Prop := fnExactJoinRegionsRow.holds Try.pinned (OpenSpec.ofChange fnExactJoinRegionsSpec)

/-- ITS FALSE NEIGHBOUR: 'it returns false'. Refute it at one input. -/
def fnExactJoinRegionsWrong : ChangeSpec := { name := "fnExactJoinRegions", fn := fun _ => fun
  | [d1, d2] => { results := [.lit (.bool false)], args := [d1, d2] }
  | _ => none }
def FnExactJoinRegionsWrongFalsely : Prop := fnExactJoinRegionsRow.holds Try.pinned (OpenSpec.ofChange fnExactJoinRegionsWrong)

/-- 'laws.FnExactWindingOf': WHATEVER THE INPUT: true; the input reads as it did. -/
def fnExactWindingOfSpec : ChangeSpec := { name := "fnExactWindingOf", fn := fun _ => fun
  | [d1, d2] => { results := [.lit (.bool true)], args := [d1, d2] }
  | _ => none }
def fnExactWindingOfRow : OpenClaim := { program := "ytadkfbkompamcaa", sum := "dfbfa053cd08370944316e32aa10cfbe23c9e808cf477d14bdba6ed171d825a0", func := "loop.example/g00883/laws.FnExactWindingOf", spec := "fnExactWindingOf", unfollowed := true, recurses := true, apart := false }
def FnExactWindingOfSaid : Prop := fnExactWindingOfRow.holds Try.pinned (OpenSpec.ofChange fnExactWindingOfSpec)

/-- ITS FALSE NEIGHBOUR: 'it returns false'. Refute it at one input. -/
def fnExactWindingOfWrong : ChangeSpec := { name := "fnExactWindingOf", fn := fun _ => fun
  | [d1, d2] => { results := [.lit (.bool false)], args := [d1, d2] }
  | _ => none }
def FnExactWindingOfWrongFalsely : Prop := fnExactWindingOfRow.holds Try.pinned (OpenSpec.ofChange fnExactWindingOfWrong)

/-- 'laws.FnExactPointIn': WHATEVER THE INPUT: true; the input reads as it did. -/
def fnExactPointInSpec : ChangeSpec := { name := "fnExactPointIn", fn := fun _ => fun
  | [d1, d2] => { results := [.lit (.bool true)], args := [d1, d2] }
  | _ => none }
def fnExactPointInRow : OpenClaim := { program := "ytadkfbkompamcaa", sum := "dfbfa053cd08370944316e32aa10cfbe23c9e808cf477d14bdba6ed171d825a0", func := "loop.example/g00883/laws.FnExactPointIn", spec := "fnExactPointIn", unfollowed := true, recurses := true, apart := false }
def FnExactPointInSaid : Prop := fnExactPointInRow.holds Try.pinned (OpenSpec.ofChange fnExactPointInSpec)

/-- ITS FALSE NEIGHBOUR: 'it returns false'. Refute it at one input. -/
def fnExactPointInWrong : ChangeSpec := { name := "fnExactPointIn", fn := fun _ => fun
  | [d1, d2] => { results := [.lit (.bool false)], args := [d1, d2] }
  | _ => none }
def FnExactPointInWrongFalsely : Prop := fnExactPointInRow.holds Try.pinned (OpenSpec.ofChange fnExactPointInWrong)

/-- 'laws.FnExactRegionText': WHATEVER THE INPUT: true; the input reads as it did. -/
def fnExactRegionTextSpec : ChangeSpec := { name := "fnExactRegionText", fn := fun _ => fun
  | [d] => { results := [.lit (.bool true)], args := [d] }
  | _ => none }
def fnExactRegionTextRow : OpenClaim := { program := "ytadkfbkompamcaa", sum := "dfbfa053cd08370944316e32aa10cfbe23c9e808cf477d14bdba6ed171d825a0", func := "loop.example/g00883/laws.FnExactRegionText", spec := "fnExactRegionText", inPlace := ["internal/abi.NoEscape", "internal/bytealg.MakeNoZero"], apart := false }
def FnExactRegionTextSaid : Prop := fnExactRegionTextRow.holds Try.pinned (OpenSpec.ofChange fnExactRegionTextSpec)

/-- ITS FALSE NEIGHBOUR: 'it returns false'. Refute it at one input. -/
def fnExactRegionTextWrong : ChangeSpec := { name := "fnExactRegionText", fn := fun _ => fun
  | [d] => { results := [.lit (.bool false)], args := [d] }
  | _ => none }
def FnExactRegionTextWrongFalsely : Prop := fnExactRegionTextRow.holds Try.pinned (OpenSpec.ofChange fnExactRegionTextWrong)

/-- 'laws.FnExactIsSnapped': WHATEVER THE INPUT: true; the input reads as it did. -/
def fnExactIsSnappedSpec : ChangeSpec := { name := "fnExactIsSnapped", fn := fun _ => fun
  | [d] => { results := [.lit (.bool true)], args := [d] }
  | _ => none }
def fnExactIsSnappedRow : OpenClaim := { program := "ytadkfbkompamcaa", sum := "dfbfa053cd08370944316e32aa10cfbe23c9e808cf477d14bdba6ed171d825a0", func := "loop.example/g00883/laws.FnExactIsSnapped", spec := "fnExactIsSnapped", apart := false }
def FnExactIsSnappedSaid : Prop := fnExactIsSnappedRow.holds Try.pinned (OpenSpec.ofChange fnExactIsSnappedSpec)

/-- ITS FALSE NEIGHBOUR: 'it returns false'. Refute it at one input. -/
def fnExactIsSnappedWrong : ChangeSpec := { name := "fnExactIsSnapped", fn := fun _ => fun
  | [d] => { results := [.lit (.bool false)], args := [d] }
  | _ => none }
def FnExactIsSnappedWrongFalsely : Prop := fnExactIsSnappedRow.holds Try.pinned (OpenSpec.ofChange fnExactIsSnappedWrong)

/-- 'laws.FnExactSnapEdge': WHATEVER THE INPUT: true; the input reads as it did. -/
def fnExactSnapEdgeSpec : ChangeSpec := { name := "fnExactSnapEdge", fn := fun _ => fun
  | [d1, d2, d3] => { results := [.lit (.bool true)], args := [d1, d2, d3] }
  | _ => none }
def fnExactSnapEdgeRow : OpenClaim := { program := "ytadkfbkompamcaa", sum := "dfbfa053cd08370944316e32aa10cfbe23c9e808cf477d14bdba6ed171d825a0", func := "loop.example/g00883/laws.FnExactSnapEdge", spec := "fnExactSnapEdge", unfollowed := true, recurses := true, apart := false }
def FnExactSnapEdgeSaid : Prop := fnExactSnapEdgeRow.holds Try.pinned (OpenSpec.ofChange fnExactSnapEdgeSpec)

/-- ITS FALSE NEIGHBOUR: 'it returns false'. Refute it at one input. -/
def fnExactSnapEdgeWrong : ChangeSpec := { name := "fnExactSnapEdge", fn := fun _ => fun
  | [d1, d2, d3] => { results := [.lit (.bool false)], args := [d1, d2, d3] }
  | _ => none }
def FnExactSnapEdgeWrongFalsely : Prop := fnExactSnapEdgeRow.holds Try.pinned (OpenSpec.ofChange fnExactSnapEdgeWrong)

/-- 'laws.FnExactFlattenOutline': WHATEVER THE INPUT: true; the input reads as it did. -/
def fnExactFlattenOutlineSpec : ChangeSpec := { name := "fnExactFlattenOutline", fn := fun _ => fun
  | [d1, d2] => { results := [.lit (.bool true)], args := [d1, d2] }
  | _ => none }
def fnExactFlattenOutlineRow : OpenClaim := { program := "ytadkfbkompamcaa", sum := "dfbfa053cd08370944316e32aa10cfbe23c9e808cf477d14bdba6ed171d825a0", func := "loop.example/g00883/laws.FnExactFlattenOutline", spec := "fnExactFlattenOutline", unfollowed := true, recurses := true, apart := false }
def FnExactFlattenOutlineSaid : Prop := fnExactFlattenOutlineRow.holds Try.pinned (OpenSpec.ofChange fnExactFlattenOutlineSpec)

/-- ITS FALSE NEIGHBOUR: 'it returns false'. Refute it at one input. -/
def fnExactFlattenOutlineWrong : ChangeSpec := { name := "fnExactFlattenOutline", fn := fun _ => fun
  | [d1, d2] => { results := [.lit (.bool false)], args := [d1, d2] }
  | _ => none }
def FnExactFlattenOutlineWrongFalsely : Prop := fnExactFlattenOutlineRow.holds Try.pinned (OpenSpec.ofChange fnExactFlattenOutlineWrong)

/-- 'laws.FnExactReflectPen': WHATEVER THE INPUT: true; the input reads as it did. -/
def fnExactReflectPenSpec : ChangeSpec := { name := "fnExactReflectPen", fn := fun _ => fun
  | [d] => { results := [.lit (.bool true)], args := [d] }
  | _ => none }
def fnExactReflectPenRow : OpenClaim := { program := "ytadkfbkompamcaa", sum := "dfbfa053cd08370944316e32aa10cfbe23c9e808cf477d14bdba6ed171d825a0", func := "loop.example/g00883/laws.FnExactReflectPen", spec := "fnExactReflectPen", unfollowed := true, recurses := true, apart := false }
def FnExactReflectPenSaid : Prop := fnExactReflectPenRow.holds Try.pinned (OpenSpec.ofChange fnExactReflectPenSpec)

/-- ITS FALSE NEIGHBOUR: 'it returns false'. Refute it at one input. -/
def fnExactReflectPenWrong : ChangeSpec := { name := "fnExactReflectPen", fn := fun _ => fun
  | [d] => { results := [.lit (.bool false)], args := [d] }
  | _ => none }
def FnExactReflectPenWrongFalsely : Prop := fnExactReflectPenRow.holds Try.pinned (OpenSpec.ofChange fnExactReflectPenWrong)

/- THE SECOND FORM. 'bulk': how many values and letters a reading holds, each counted each time it is reached (what is shared counts as often as it is met; a slice's spare places count too). A statement '..UptoSaid' is the law's where the arguments, and the package variables that the reading takes, are together of bulk at most 1048576: NARROWER than '..Said'. Prove '..Said' where nothing that the law and all that it calls make is longer than what came in: it says more and counts as full. Else prove '..UptoSaid'. A law counts once. -/
mutual
def uptoBulk {H : Type} : DataW H → Nat
  | .lit (.string bytes) => bytes.length + 1
  | .lit _ => 1
  | .nil => 1
  | .ptr d => uptoBulk d + 1
  | .slice elems spare => uptoBulkAll elems + uptoBulkAll spare + 1
  | .agg parts => uptoBulkAll parts + 1
  | .iface _ d => uptoBulk d + 1
  | .map entries => uptoBulkEntries entries + 1
  | .held _ => 1
def uptoBulkAll {H : Type} : List (DataW H) → Nat
  | [] => 0
  | d :: r => uptoBulk d + uptoBulkAll r
def uptoBulkEntries {H : Type} : List (Lit × DataW H) → Nat
  | [] => 0
  | x :: r => uptoBulkEntry x + uptoBulkEntries r
def uptoBulkEntry {H : Type} : Lit × DataW H → Nat
  | (.string bytes, d) => bytes.length + uptoBulk d + 1
  | (_, d) => uptoBulk d + 1
 end
def uptoSmall : (H : Type) → List (DataW H) → Bool := fun _ ds => decide (uptoBulkAll ds ≤ 1048576)
def OpenSpec.upto (s : _root_.Go.ChangeSpec) : _root_.Go.OpenSpec := { _root_.Go.OpenSpec.ofChange s with cond := some uptoSmall }

/-- 'laws.FnExactRegionBounds', WHERE WHAT IT READS IS OF BULK AT MOST 1048576: true; the input reads as it did. -/
def fnExactRegionBoundsUptoRow : OpenClaim := { program := "ytadkfbkompamcaa", sum := "dfbfa053cd08370944316e32aa10cfbe23c9e808cf477d14bdba6ed171d825a0", func := "loop.example/g00883/laws.FnExactRegionBounds", spec := "fnExactRegionBounds", apart := false, narrowed := true }
def FnExactRegionBoundsUptoSaid : Prop := fnExactRegionBoundsUptoRow.holds Try.pinned (OpenSpec.upto fnExactRegionBoundsSpec)

/-- 'laws.FnExactPointInRing', WHERE WHAT IT READS IS OF BULK AT MOST 1048576: true; the input reads as it did. -/
def fnExactPointInRingUptoRow : OpenClaim := { program := "ytadkfbkompamcaa", sum := "dfbfa053cd08370944316e32aa10cfbe23c9e808cf477d14bdba6ed171d825a0", func := "loop.example/g00883/laws.FnExactPointInRing", spec := "fnExactPointInRing", unfollowed := true, recurses := true, apart := false, narrowed := true }
def FnExactPointInRingUptoSaid : Prop := fnExactPointInRingUptoRow.holds Try.pinned (OpenSpec.upto fnExactPointInRingSpec)

/-- 'laws.FnExactThinRing', WHERE WHAT IT READS IS OF BULK AT MOST 1048576: true; the input reads as it did. -/
def fnExactThinRingUptoRow : OpenClaim := { program := "ytadkfbkompamcaa", sum := "dfbfa053cd08370944316e32aa10cfbe23c9e808cf477d14bdba6ed171d825a0", func := "loop.example/g00883/laws.FnExactThinRing", spec := "fnExactThinRing", recurses := true, apart := false, narrowed := true }
def FnExactThinRingUptoSaid : Prop := fnExactThinRingUptoRow.holds Try.pinned (OpenSpec.upto fnExactThinRingSpec)

/-- 'laws.FnExactReverseRegion', WHERE WHAT IT READS IS OF BULK AT MOST 1048576: true; the input reads as it did. -/
def fnExactReverseRegionUptoRow : OpenClaim := { program := "ytadkfbkompamcaa", sum := "dfbfa053cd08370944316e32aa10cfbe23c9e808cf477d14bdba6ed171d825a0", func := "loop.example/g00883/laws.FnExactReverseRegion", spec := "fnExactReverseRegion", apart := false, narrowed := true }
def FnExactReverseRegionUptoSaid : Prop := fnExactReverseRegionUptoRow.holds Try.pinned (OpenSpec.upto fnExactReverseRegionSpec)

/-- 'laws.FnExactJoinRegions', WHERE WHAT IT READS IS OF BULK AT MOST 1048576: true; the input reads as it did. -/
def fnExactJoinRegionsUptoRow : OpenClaim := { program := "ytadkfbkompamcaa", sum := "dfbfa053cd08370944316e32aa10cfbe23c9e808cf477d14bdba6ed171d825a0", func := "loop.example/g00883/laws.FnExactJoinRegions", spec := "fnExactJoinRegions", apart := false, narrowed := true }
def FnExactJoinRegionsUptoSaid : Prop := fnExactJoinRegionsUptoRow.holds Try.pinned (OpenSpec.upto fnExactJoinRegionsSpec)

/-- 'laws.FnExactWindingOf', WHERE WHAT IT READS IS OF BULK AT MOST 1048576: true; the input reads as it did. -/
def fnExactWindingOfUptoRow : OpenClaim := { program := "ytadkfbkompamcaa", sum := "dfbfa053cd08370944316e32aa10cfbe23c9e808cf477d14bdba6ed171d825a0", func := "loop.example/g00883/laws.FnExactWindingOf", spec := "fnExactWindingOf", unfollowed := true, recurses := true, apart := false, narrowed := true }
def FnExactWindingOfUptoSaid : Prop := fnExactWindingOfUptoRow.holds Try.pinned (OpenSpec.upto fnExactWindingOfSpec)

/-- 'laws.FnExactPointIn', WHERE WHAT IT READS IS OF BULK AT MOST 1048576: true; the input reads as it did. -/
def fnExactPointInUptoRow : OpenClaim := { program := "ytadkfbkompamcaa", sum := "dfbfa053cd08370944316e32aa10cfbe23c9e808cf477d14bdba6ed171d825a0", func := "loop.example/g00883/laws.FnExactPointIn", spec := "fnExactPointIn", unfollowed := true, recurses := true, apart := false, narrowed := true }
def FnExactPointInUptoSaid : Prop := fnExactPointInUptoRow.holds Try.pinned (OpenSpec.upto fnExactPointInSpec)

/-- 'laws.FnExactRegionText', WHERE WHAT IT READS IS OF BULK AT MOST 1048576: true; the input reads as it did. -/
def fnExactRegionTextUptoRow : OpenClaim := { program := "ytadkfbkompamcaa", sum := "dfbfa053cd08370944316e32aa10cfbe23c9e808cf477d14bdba6ed171d825a0", func := "loop.example/g00883/laws.FnExactRegionText", spec := "fnExactRegionText", inPlace := ["internal/abi.NoEscape", "internal/bytealg.MakeNoZero"], apart := false, narrowed := true }
def FnExactRegionTextUptoSaid : Prop := fnExactRegionTextUptoRow.holds Try.pinned (OpenSpec.upto fnExactRegionTextSpec)

/-- 'laws.FnExactIsSnapped', WHERE WHAT IT READS IS OF BULK AT MOST 1048576: true; the input reads as it did. -/
def fnExactIsSnappedUptoRow : OpenClaim := { program := "ytadkfbkompamcaa", sum := "dfbfa053cd08370944316e32aa10cfbe23c9e808cf477d14bdba6ed171d825a0", func := "loop.example/g00883/laws.FnExactIsSnapped", spec := "fnExactIsSnapped", apart := false, narrowed := true }
def FnExactIsSnappedUptoSaid : Prop := fnExactIsSnappedUptoRow.holds Try.pinned (OpenSpec.upto fnExactIsSnappedSpec)

/-- 'laws.FnExactSnapEdge', WHERE WHAT IT READS IS OF BULK AT MOST 1048576: true; the input reads as it did. -/
def fnExactSnapEdgeUptoRow : OpenClaim := { program := "ytadkfbkompamcaa", sum := "dfbfa053cd08370944316e32aa10cfbe23c9e808cf477d14bdba6ed171d825a0", func := "loop.example/g00883/laws.FnExactSnapEdge", spec := "fnExactSnapEdge", unfollowed := true, recurses := true, apart := false, narrowed := true }
def FnExactSnapEdgeUptoSaid : Prop := fnExactSnapEdgeUptoRow.holds Try.pinned (OpenSpec.upto fnExactSnapEdgeSpec)

/-- 'laws.FnExactFlattenOutline', WHERE WHAT IT READS IS OF BULK AT MOST 1048576: true; the input reads as it did. -/
def fnExactFlattenOutlineUptoRow : OpenClaim := { program := "ytadkfbkompamcaa", sum := "dfbfa053cd08370944316e32aa10cfbe23c9e808cf477d14bdba6ed171d825a0", func := "loop.example/g00883/laws.FnExactFlattenOutline", spec := "fnExactFlattenOutline", unfollowed := true, recurses := true, apart := false, narrowed := true }
def FnExactFlattenOutlineUptoSaid : Prop := fnExactFlattenOutlineUptoRow.holds Try.pinned (OpenSpec.upto fnExactFlattenOutlineSpec)

/-- 'laws.FnExactReflectPen', WHERE WHAT IT READS IS OF BULK AT MOST 1048576: true; the input reads as it did. -/
def fnExactReflectPenUptoRow : OpenClaim := { program := "ytadkfbkompamcaa", sum := "dfbfa053cd08370944316e32aa10cfbe23c9e808cf477d14bdba6ed171d825a0", func := "loop.example/g00883/laws.FnExactReflectPen", spec := "fnExactReflectPen", unfollowed := true, recurses := true, apart := false, narrowed := true }
def FnExactReflectPenUptoSaid : Prop := fnExactReflectPenUptoRow.holds Try.pinned (OpenSpec.upto fnExactReflectPenSpec)

end Rows
end Go.Proofs.Ytadkfbkompamcaa
