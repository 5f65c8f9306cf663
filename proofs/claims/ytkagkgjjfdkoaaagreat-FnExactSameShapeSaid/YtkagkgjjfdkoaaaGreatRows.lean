/-
  No cell of these rows narrows 'for every input' (looked for: loops, veiled, ifaces, maps, wideKeys, modest, calm, conditions, laid).
  DERIVED. THE GIVEN ROWS OF THIS SEAT. 7 by the template 'for every input the law returns true; each argument reads behind the call as it read before'; 0 by the template 'total and deterministic' (their statements: YtkagkgjjfdkoaaaGreatTotals.lean).
  GIVEN WITH THE SEED: the statements are not yours to turn. If you find one false, say at which input.
  Laid BY PROGRAM, IN A SANDBOX (cutbox-rows.mjs): the forced cells as the released guide's own fill.sh prints them over the translation 5197f2e8196f454d… (all of the seat's roots in one cut). By AI agents, Wed Nov 11 2026. No macro, syntax, notation, axiom, sorry.
-/
import Derived.Test.YtkagkgjjfdkoaaaGreatChecked
import GoSem.Claim
import GoSem.ClaimJoined
import GoSem.ClaimMapViews
import Derived.JoinedTies
import Derived.KernelRfl
namespace Go.Proofs.YtkagkgjjfdkoaaaGreat
/- THE CELL 'sum', in the pinned program and in every row, IS THE sha256 OF THE DUMP (.gsa) THAT YtkagkgjjfdkoaaaGreatProg.lean LOADS. Nothing in Lean hashes anything: it is a label: what it is worth is what the hold of that sum in a sandbox is worth. -/
noncomputable def Tryz.pinned : Pinned := { name := "ytkagkgjjfdkoaaagreat", sum := "5197f2e8196f454df0220b0da5a968aa8c21148707f7b786b3888ebd1673a613", checked := Tryz.checked }
namespace Rows
def none {H : Type} : Left H := { results := [], args := [] }

/-- 'laws.FnExactIsClean': WHATEVER THE INPUT: true; the input reads as it did. -/
def fnExactIsCleanSpec : ChangeSpec := { name := "fnExactIsClean", fn := fun _ => fun
  | [d] => { results := [.lit (.bool true)], args := [d] }
  | _ => none }
def fnExactIsCleanRow : OpenClaim := { program := "ytkagkgjjfdkoaaagreat", sum := "5197f2e8196f454df0220b0da5a968aa8c21148707f7b786b3888ebd1673a613", func := "loop.example/g00883/laws.FnExactIsClean", spec := "fnExactIsClean", unfollowed := true, recurses := true, plainKeys := false, apart := false }
def FnExactIsCleanSaid : Prop := fnExactIsCleanRow.holds Tryz.pinned (OpenSpec.ofChange fnExactIsCleanSpec)

/-- ITS FALSE NEIGHBOUR: 'it returns false'. Refute it at one input. -/
def fnExactIsCleanWrong : ChangeSpec := { name := "fnExactIsClean", fn := fun _ => fun
  | [d] => { results := [.lit (.bool false)], args := [d] }
  | _ => none }
def FnExactIsCleanWrongFalsely : Prop := fnExactIsCleanRow.holds Tryz.pinned (OpenSpec.ofChange fnExactIsCleanWrong)

/-- 'laws.FnExactRemoveOverlap': WHATEVER THE INPUT: true; the input reads as it did. -/
def fnExactRemoveOverlapSpec : ChangeSpec := { name := "fnExactRemoveOverlap", fn := fun _ => fun
  | [d] => { results := [.lit (.bool true)], args := [d] }
  | _ => none }
def fnExactRemoveOverlapRow : OpenClaim := { program := "ytkagkgjjfdkoaaagreat", sum := "5197f2e8196f454df0220b0da5a968aa8c21148707f7b786b3888ebd1673a613", func := "loop.example/g00883/laws.FnExactRemoveOverlap", spec := "fnExactRemoveOverlap", unfollowed := true, recurses := true, plainKeys := false, apart := false }
def FnExactRemoveOverlapSaid : Prop := fnExactRemoveOverlapRow.holds Tryz.pinned (OpenSpec.ofChange fnExactRemoveOverlapSpec)

/-- ITS FALSE NEIGHBOUR: 'it returns false'. Refute it at one input. -/
def fnExactRemoveOverlapWrong : ChangeSpec := { name := "fnExactRemoveOverlap", fn := fun _ => fun
  | [d] => { results := [.lit (.bool false)], args := [d] }
  | _ => none }
def FnExactRemoveOverlapWrongFalsely : Prop := fnExactRemoveOverlapRow.holds Tryz.pinned (OpenSpec.ofChange fnExactRemoveOverlapWrong)

/-- 'laws.FnExactCombineRegions': WHATEVER THE INPUT: true; the input reads as it did. -/
def fnExactCombineRegionsSpec : ChangeSpec := { name := "fnExactCombineRegions", fn := fun _ => fun
  | [d1, d2, d3] => { results := [.lit (.bool true)], args := [d1, d2, d3] }
  | _ => none }
def fnExactCombineRegionsRow : OpenClaim := { program := "ytkagkgjjfdkoaaagreat", sum := "5197f2e8196f454df0220b0da5a968aa8c21148707f7b786b3888ebd1673a613", func := "loop.example/g00883/laws.FnExactCombineRegions", spec := "fnExactCombineRegions", unfollowed := true, recurses := true, plainKeys := false, apart := false }
def FnExactCombineRegionsSaid : Prop := fnExactCombineRegionsRow.holds Tryz.pinned (OpenSpec.ofChange fnExactCombineRegionsSpec)

/-- ITS FALSE NEIGHBOUR: 'it returns false'. Refute it at one input. -/
def fnExactCombineRegionsWrong : ChangeSpec := { name := "fnExactCombineRegions", fn := fun _ => fun
  | [d1, d2, d3] => { results := [.lit (.bool false)], args := [d1, d2, d3] }
  | _ => none }
def FnExactCombineRegionsWrongFalsely : Prop := fnExactCombineRegionsRow.holds Tryz.pinned (OpenSpec.ofChange fnExactCombineRegionsWrong)

/-- 'laws.FnExactMeetOf': WHATEVER THE INPUT: true; the input reads as it did. -/
def fnExactMeetOfSpec : ChangeSpec := { name := "fnExactMeetOf", fn := fun _ => fun
  | [d1, d2] => { results := [.lit (.bool true)], args := [d1, d2] }
  | _ => none }
def fnExactMeetOfRow : OpenClaim := { program := "ytkagkgjjfdkoaaagreat", sum := "5197f2e8196f454df0220b0da5a968aa8c21148707f7b786b3888ebd1673a613", func := "loop.example/g00883/laws.FnExactMeetOf", spec := "fnExactMeetOf", unfollowed := true, recurses := true, plainKeys := false, apart := false }
def FnExactMeetOfSaid : Prop := fnExactMeetOfRow.holds Tryz.pinned (OpenSpec.ofChange fnExactMeetOfSpec)

/-- ITS FALSE NEIGHBOUR: 'it returns false'. Refute it at one input. -/
def fnExactMeetOfWrong : ChangeSpec := { name := "fnExactMeetOf", fn := fun _ => fun
  | [d1, d2] => { results := [.lit (.bool false)], args := [d1, d2] }
  | _ => none }
def FnExactMeetOfWrongFalsely : Prop := fnExactMeetOfRow.holds Tryz.pinned (OpenSpec.ofChange fnExactMeetOfWrong)

/-- 'laws.FnExactMinusOf': WHATEVER THE INPUT: true; the input reads as it did. -/
def fnExactMinusOfSpec : ChangeSpec := { name := "fnExactMinusOf", fn := fun _ => fun
  | [d1, d2] => { results := [.lit (.bool true)], args := [d1, d2] }
  | _ => none }
def fnExactMinusOfRow : OpenClaim := { program := "ytkagkgjjfdkoaaagreat", sum := "5197f2e8196f454df0220b0da5a968aa8c21148707f7b786b3888ebd1673a613", func := "loop.example/g00883/laws.FnExactMinusOf", spec := "fnExactMinusOf", unfollowed := true, recurses := true, plainKeys := false, apart := false }
def FnExactMinusOfSaid : Prop := fnExactMinusOfRow.holds Tryz.pinned (OpenSpec.ofChange fnExactMinusOfSpec)

/-- ITS FALSE NEIGHBOUR: 'it returns false'. Refute it at one input. -/
def fnExactMinusOfWrong : ChangeSpec := { name := "fnExactMinusOf", fn := fun _ => fun
  | [d1, d2] => { results := [.lit (.bool false)], args := [d1, d2] }
  | _ => none }
def FnExactMinusOfWrongFalsely : Prop := fnExactMinusOfRow.holds Tryz.pinned (OpenSpec.ofChange fnExactMinusOfWrong)

/-- 'laws.FnExactUnionOf': WHATEVER THE INPUT: true; the input reads as it did. -/
def fnExactUnionOfSpec : ChangeSpec := { name := "fnExactUnionOf", fn := fun _ => fun
  | [d1, d2] => { results := [.lit (.bool true)], args := [d1, d2] }
  | _ => none }
def fnExactUnionOfRow : OpenClaim := { program := "ytkagkgjjfdkoaaagreat", sum := "5197f2e8196f454df0220b0da5a968aa8c21148707f7b786b3888ebd1673a613", func := "loop.example/g00883/laws.FnExactUnionOf", spec := "fnExactUnionOf", unfollowed := true, recurses := true, plainKeys := false, apart := false }
def FnExactUnionOfSaid : Prop := fnExactUnionOfRow.holds Tryz.pinned (OpenSpec.ofChange fnExactUnionOfSpec)

/-- ITS FALSE NEIGHBOUR: 'it returns false'. Refute it at one input. -/
def fnExactUnionOfWrong : ChangeSpec := { name := "fnExactUnionOf", fn := fun _ => fun
  | [d1, d2] => { results := [.lit (.bool false)], args := [d1, d2] }
  | _ => none }
def FnExactUnionOfWrongFalsely : Prop := fnExactUnionOfRow.holds Tryz.pinned (OpenSpec.ofChange fnExactUnionOfWrong)

/-- 'laws.FnExactSameShape': WHATEVER THE INPUT: true; the input reads as it did. -/
def fnExactSameShapeSpec : ChangeSpec := { name := "fnExactSameShape", fn := fun _ => fun
  | [d1, d2] => { results := [.lit (.bool true)], args := [d1, d2] }
  | _ => none }
def fnExactSameShapeRow : OpenClaim := { program := "ytkagkgjjfdkoaaagreat", sum := "5197f2e8196f454df0220b0da5a968aa8c21148707f7b786b3888ebd1673a613", func := "loop.example/g00883/laws.FnExactSameShape", spec := "fnExactSameShape", unfollowed := true, recurses := true, plainKeys := false, apart := false }
def FnExactSameShapeSaid : Prop := fnExactSameShapeRow.holds Tryz.pinned (OpenSpec.ofChange fnExactSameShapeSpec)

/-- ITS FALSE NEIGHBOUR: 'it returns false'. Refute it at one input. -/
def fnExactSameShapeWrong : ChangeSpec := { name := "fnExactSameShape", fn := fun _ => fun
  | [d1, d2] => { results := [.lit (.bool false)], args := [d1, d2] }
  | _ => none }
def FnExactSameShapeWrongFalsely : Prop := fnExactSameShapeRow.holds Tryz.pinned (OpenSpec.ofChange fnExactSameShapeWrong)

/- THE SECOND FORM. 'bulk': how many values and letters a reading holds, each counted each time it is reached (what is shared counts as often as it is met; a slice's spare places count too). A statement '..UptoSaid' is the law's where the arguments, and the package variables that the reading takes, are together of bulk at most 1048576: NARROWER than '..Said'. Prove '..Said' where nothing that the law and all that it calls make is longer than what came in: it says more and counts as full. Else prove '..UptoSaid'. A law counts once. -/
mutual
def uptoBulk {H : Type} : DataW H → Nat
  | .lit (.string bytes) => bytes.length + 1
  | .lit _ => 1
  | .nil => 1
  | .ptr d => uptoBulk d + 1
  | .slice elems spare => uptoBulkAll elems + uptoBulkAll spare + 1
  | .agg parts => uptoBulkAll parts + 1
  | .iface _ d => uptoBulk d + 1
  | .map entries => uptoBulkEntries entries + 1
  | .held _ => 1
def uptoBulkAll {H : Type} : List (DataW H) → Nat
  | [] => 0
  | d :: r => uptoBulk d + uptoBulkAll r
def uptoBulkEntries {H : Type} : List (Lit × DataW H) → Nat
  | [] => 0
  | x :: r => uptoBulkEntry x + uptoBulkEntries r
def uptoBulkEntry {H : Type} : Lit × DataW H → Nat
  | (.string bytes, d) => bytes.length + uptoBulk d + 1
  | (_, d) => uptoBulk d + 1
 end
def uptoSmall : (H : Type) → List (DataW H) → Bool := fun _ ds => decide (uptoBulkAll ds ≤ 1048576)
def OpenSpec.upto (s : _root_.Go.ChangeSpec) : _root_.Go.OpenSpec := { _root_.Go.OpenSpec.ofChange s with cond := some uptoSmall }

/-- 'laws.FnExactIsClean', WHERE WHAT IT READS IS OF BULK AT MOST 1048576: true; the input reads as it did. -/
def fnExactIsCleanUptoRow : OpenClaim := { program := "ytkagkgjjfdkoaaagreat", sum := "5197f2e8196f454df0220b0da5a968aa8c21148707f7b786b3888ebd1673a613", func := "loop.example/g00883/laws.FnExactIsClean", spec := "fnExactIsClean", unfollowed := true, recurses := true, plainKeys := false, apart := false, narrowed := true }
def FnExactIsCleanUptoSaid : Prop := fnExactIsCleanUptoRow.holds Tryz.pinned (OpenSpec.upto fnExactIsCleanSpec)

/-- 'laws.FnExactRemoveOverlap', WHERE WHAT IT READS IS OF BULK AT MOST 1048576: true; the input reads as it did. -/
def fnExactRemoveOverlapUptoRow : OpenClaim := { program := "ytkagkgjjfdkoaaagreat", sum := "5197f2e8196f454df0220b0da5a968aa8c21148707f7b786b3888ebd1673a613", func := "loop.example/g00883/laws.FnExactRemoveOverlap", spec := "fnExactRemoveOverlap", unfollowed := true, recurses := true, plainKeys := false, apart := false, narrowed := true }
def FnExactRemoveOverlapUptoSaid : Prop := fnExactRemoveOverlapUptoRow.holds Tryz.pinned (OpenSpec.upto fnExactRemoveOverlapSpec)

/-- 'laws.FnExactCombineRegions', WHERE WHAT IT READS IS OF BULK AT MOST 1048576: true; the input reads as it did. -/
def fnExactCombineRegionsUptoRow : OpenClaim := { program := "ytkagkgjjfdkoaaagreat", sum := "5197f2e8196f454df0220b0da5a968aa8c21148707f7b786b3888ebd1673a613", func := "loop.example/g00883/laws.FnExactCombineRegions", spec := "fnExactCombineRegions", unfollowed := true, recurses := true, plainKeys := false, apart := false, narrowed := true }
def FnExactCombineRegionsUptoSaid : Prop := fnExactCombineRegionsUptoRow.holds Tryz.pinned (OpenSpec.upto fnExactCombineRegionsSpec)

/-- 'laws.FnExactMeetOf', WHERE WHAT IT READS IS OF BULK AT MOST 1048576: true; the input reads as it did. -/
def fnExactMeetOfUptoRow : OpenClaim := { program := "ytkagkgjjfdkoaaagreat", sum := "5197f2e8196f454df0220b0da5a968aa8c21148707f7b786b3888ebd1673a613", func := "loop.example/g00883/laws.FnExactMeetOf", spec := "fnExactMeetOf", unfollowed := true, recurses := true, plainKeys := false, apart := false, narrowed := true }
def FnExactMeetOfUptoSaid : Prop := fnExactMeetOfUptoRow.holds Tryz.pinned (OpenSpec.upto fnExactMeetOfSpec)

/-- 'laws.FnExactMinusOf', WHERE WHAT IT READS IS OF BULK AT MOST 1048576: true; the input reads as it did. -/
def fnExactMinusOfUptoRow : OpenClaim := { program := "ytkagkgjjfdkoaaagreat", sum := "5197f2e8196f454df0220b0da5a968aa8c21148707f7b786b3888ebd1673a613", func := "loop.example/g00883/laws.FnExactMinusOf", spec := "fnExactMinusOf", unfollowed := true, recurses := true, plainKeys := false, apart := false, narrowed := true }
def FnExactMinusOfUptoSaid : Prop := fnExactMinusOfUptoRow.holds Tryz.pinned (OpenSpec.upto fnExactMinusOfSpec)

/-- 'laws.FnExactUnionOf', WHERE WHAT IT READS IS OF BULK AT MOST 1048576: true; the input reads as it did. -/
def fnExactUnionOfUptoRow : OpenClaim := { program := "ytkagkgjjfdkoaaagreat", sum := "5197f2e8196f454df0220b0da5a968aa8c21148707f7b786b3888ebd1673a613", func := "loop.example/g00883/laws.FnExactUnionOf", spec := "fnExactUnionOf", unfollowed := true, recurses := true, plainKeys := false, apart := false, narrowed := true }
def FnExactUnionOfUptoSaid : Prop := fnExactUnionOfUptoRow.holds Tryz.pinned (OpenSpec.upto fnExactUnionOfSpec)

/-- 'laws.FnExactSameShape', WHERE WHAT IT READS IS OF BULK AT MOST 1048576: true; the input reads as it did. -/
def fnExactSameShapeUptoRow : OpenClaim := { program := "ytkagkgjjfdkoaaagreat", sum := "5197f2e8196f454df0220b0da5a968aa8c21148707f7b786b3888ebd1673a613", func := "loop.example/g00883/laws.FnExactSameShape", spec := "fnExactSameShape", unfollowed := true, recurses := true, plainKeys := false, apart := false, narrowed := true }
def FnExactSameShapeUptoSaid : Prop := fnExactSameShapeUptoRow.holds Tryz.pinned (OpenSpec.upto fnExactSameShapeSpec)

end Rows
end Go.Proofs.YtkagkgjjfdkoaaaGreat
