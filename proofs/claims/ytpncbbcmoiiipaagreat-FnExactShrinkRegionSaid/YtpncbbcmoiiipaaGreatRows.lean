/-
  No cell of these rows narrows 'for every input' (looked for: loops, veiled, ifaces, maps, wideKeys, modest, calm, conditions, laid).
  DERIVED. THE GIVEN ROWS OF THIS SEAT. 9 by the template 'for every input the law returns true; each argument reads behind the call as it read before'; 0 by the template 'total and deterministic' (their statements: YtpncbbcmoiiipaaGreatTotals.lean).
  GIVEN WITH THE SEED: the statements are not yours to turn. If you find one false, say at which input.
  Laid BY PROGRAM, IN A SANDBOX (cutbox-rows.mjs): the forced cells as the released guide's own fill.sh prints them over the translation 021d8101af879631… (all of the seat's roots in one cut). By AI agents, Wed Nov 11 2026. No macro, syntax, notation, axiom, sorry.
-/
import Derived.Test.YtpncbbcmoiiipaaGreatChecked
import GoSem.Claim
import GoSem.ClaimJoined
import GoSem.ClaimMapViews
import Derived.JoinedTies
import Derived.KernelRfl
namespace Go.Proofs.YtpncbbcmoiiipaaGreat
/- THE CELL 'sum', in the pinned program and in every row, IS THE sha256 OF THE DUMP (.gsa) THAT YtpncbbcmoiiipaaGreatProg.lean LOADS. Nothing in Lean hashes anything: it is a label: what it is worth is what the hold of that sum in a sandbox is worth. -/
noncomputable def Tryz.pinned : Pinned := { name := "ytpncbbcmoiiipaagreat", sum := "021d8101af8796313d5dabd9d14a6e2cacaafc31bc1704ba70f76138f992b02d", checked := Tryz.checked }
namespace Rows
def none {H : Type} : Left H := { results := [], args := [] }

/-- 'laws.FnExactStrokeOf': WHATEVER THE INPUT: true; the input reads as it did. -/
def fnExactStrokeOfSpec : ChangeSpec := { name := "fnExactStrokeOf", fn := fun _ => fun
  | [d1, d2, d3] => { results := [.lit (.bool true)], args := [d1, d2, d3] }
  | _ => none }
def fnExactStrokeOfRow : OpenClaim := { program := "ytpncbbcmoiiipaagreat", sum := "021d8101af8796313d5dabd9d14a6e2cacaafc31bc1704ba70f76138f992b02d", func := "loop.example/g00883/laws.FnExactStrokeOf", spec := "fnExactStrokeOf", unfollowed := true, recurses := true, plainKeys := false, apart := false }
def FnExactStrokeOfSaid : Prop := fnExactStrokeOfRow.holds Tryz.pinned (OpenSpec.ofChange fnExactStrokeOfSpec)

/-- ITS FALSE NEIGHBOUR: 'it returns false'. Refute it at one input. -/
def fnExactStrokeOfWrong : ChangeSpec := { name := "fnExactStrokeOf", fn := fun _ => fun
  | [d1, d2, d3] => { results := [.lit (.bool false)], args := [d1, d2, d3] }
  | _ => none }
def FnExactStrokeOfWrongFalsely : Prop := fnExactStrokeOfRow.holds Tryz.pinned (OpenSpec.ofChange fnExactStrokeOfWrong)

/-- 'laws.FnExactWidenRegion': WHATEVER THE INPUT: true; the input reads as it did. -/
def fnExactWidenRegionSpec : ChangeSpec := { name := "fnExactWidenRegion", fn := fun _ => fun
  | [d1, d2] => { results := [.lit (.bool true)], args := [d1, d2] }
  | _ => none }
def fnExactWidenRegionRow : OpenClaim := { program := "ytpncbbcmoiiipaagreat", sum := "021d8101af8796313d5dabd9d14a6e2cacaafc31bc1704ba70f76138f992b02d", func := "loop.example/g00883/laws.FnExactWidenRegion", spec := "fnExactWidenRegion", unfollowed := true, recurses := true, plainKeys := false, apart := false }
def FnExactWidenRegionSaid : Prop := fnExactWidenRegionRow.holds Tryz.pinned (OpenSpec.ofChange fnExactWidenRegionSpec)

/-- ITS FALSE NEIGHBOUR: 'it returns false'. Refute it at one input. -/
def fnExactWidenRegionWrong : ChangeSpec := { name := "fnExactWidenRegion", fn := fun _ => fun
  | [d1, d2] => { results := [.lit (.bool false)], args := [d1, d2] }
  | _ => none }
def FnExactWidenRegionWrongFalsely : Prop := fnExactWidenRegionRow.holds Tryz.pinned (OpenSpec.ofChange fnExactWidenRegionWrong)

/-- 'laws.FnExactShrinkRegion': WHATEVER THE INPUT: true; the input reads as it did. -/
def fnExactShrinkRegionSpec : ChangeSpec := { name := "fnExactShrinkRegion", fn := fun _ => fun
  | [d1, d2] => { results := [.lit (.bool true)], args := [d1, d2] }
  | _ => none }
def fnExactShrinkRegionRow : OpenClaim := { program := "ytpncbbcmoiiipaagreat", sum := "021d8101af8796313d5dabd9d14a6e2cacaafc31bc1704ba70f76138f992b02d", func := "loop.example/g00883/laws.FnExactShrinkRegion", spec := "fnExactShrinkRegion", unfollowed := true, recurses := true, plainKeys := false, apart := false }
def FnExactShrinkRegionSaid : Prop := fnExactShrinkRegionRow.holds Tryz.pinned (OpenSpec.ofChange fnExactShrinkRegionSpec)

/-- ITS FALSE NEIGHBOUR: 'it returns false'. Refute it at one input. -/
def fnExactShrinkRegionWrong : ChangeSpec := { name := "fnExactShrinkRegion", fn := fun _ => fun
  | [d1, d2] => { results := [.lit (.bool false)], args := [d1, d2] }
  | _ => none }
def FnExactShrinkRegionWrongFalsely : Prop := fnExactShrinkRegionRow.holds Tryz.pinned (OpenSpec.ofChange fnExactShrinkRegionWrong)

/-- 'laws.FnExactNestingOf': WHATEVER THE INPUT: true; the input reads as it did. -/
def fnExactNestingOfSpec : ChangeSpec := { name := "fnExactNestingOf", fn := fun _ => fun
  | [d] => { results := [.lit (.bool true)], args := [d] }
  | _ => none }
def fnExactNestingOfRow : OpenClaim := { program := "ytpncbbcmoiiipaagreat", sum := "021d8101af8796313d5dabd9d14a6e2cacaafc31bc1704ba70f76138f992b02d", func := "loop.example/g00883/laws.FnExactNestingOf", spec := "fnExactNestingOf", unfollowed := true, recurses := true, plainKeys := false, apart := false }
def FnExactNestingOfSaid : Prop := fnExactNestingOfRow.holds Tryz.pinned (OpenSpec.ofChange fnExactNestingOfSpec)

/-- ITS FALSE NEIGHBOUR: 'it returns false'. Refute it at one input. -/
def fnExactNestingOfWrong : ChangeSpec := { name := "fnExactNestingOf", fn := fun _ => fun
  | [d] => { results := [.lit (.bool false)], args := [d] }
  | _ => none }
def FnExactNestingOfWrongFalsely : Prop := fnExactNestingOfRow.holds Tryz.pinned (OpenSpec.ofChange fnExactNestingOfWrong)

/-- 'laws.FnExactPartsOf': WHATEVER THE INPUT: true; the input reads as it did. -/
def fnExactPartsOfSpec : ChangeSpec := { name := "fnExactPartsOf", fn := fun _ => fun
  | [d] => { results := [.lit (.bool true)], args := [d] }
  | _ => none }
def fnExactPartsOfRow : OpenClaim := { program := "ytpncbbcmoiiipaagreat", sum := "021d8101af8796313d5dabd9d14a6e2cacaafc31bc1704ba70f76138f992b02d", func := "loop.example/g00883/laws.FnExactPartsOf", spec := "fnExactPartsOf", unfollowed := true, recurses := true, plainKeys := false, apart := false }
def FnExactPartsOfSaid : Prop := fnExactPartsOfRow.holds Tryz.pinned (OpenSpec.ofChange fnExactPartsOfSpec)

/-- ITS FALSE NEIGHBOUR: 'it returns false'. Refute it at one input. -/
def fnExactPartsOfWrong : ChangeSpec := { name := "fnExactPartsOf", fn := fun _ => fun
  | [d] => { results := [.lit (.bool false)], args := [d] }
  | _ => none }
def FnExactPartsOfWrongFalsely : Prop := fnExactPartsOfRow.holds Tryz.pinned (OpenSpec.ofChange fnExactPartsOfWrong)

/-- 'laws.FnOverlap': WHATEVER THE INPUT: true; the input reads as it did. -/
def fnOverlapSpec : ChangeSpec := { name := "fnOverlap", fn := fun _ => fun
  | [d] => { results := [.lit (.bool true)], args := [d] }
  | _ => none }
def fnOverlapRow : OpenClaim := { program := "ytpncbbcmoiiipaagreat", sum := "021d8101af8796313d5dabd9d14a6e2cacaafc31bc1704ba70f76138f992b02d", func := "loop.example/g00883/laws.FnOverlap", spec := "fnOverlap", unfollowed := true, recurses := true, plainKeys := false, apart := false }
def FnOverlapSaid : Prop := fnOverlapRow.holds Tryz.pinned (OpenSpec.ofChange fnOverlapSpec)

/-- ITS FALSE NEIGHBOUR: 'it returns false'. Refute it at one input. -/
def fnOverlapWrong : ChangeSpec := { name := "fnOverlap", fn := fun _ => fun
  | [d] => { results := [.lit (.bool false)], args := [d] }
  | _ => none }
def FnOverlapWrongFalsely : Prop := fnOverlapRow.holds Tryz.pinned (OpenSpec.ofChange fnOverlapWrong)

/-- 'laws.FnBooleans': WHATEVER THE INPUT: true; the input reads as it did. -/
def fnBooleansSpec : ChangeSpec := { name := "fnBooleans", fn := fun _ => fun
  | [d1, d2] => { results := [.lit (.bool true)], args := [d1, d2] }
  | _ => none }
def fnBooleansRow : OpenClaim := { program := "ytpncbbcmoiiipaagreat", sum := "021d8101af8796313d5dabd9d14a6e2cacaafc31bc1704ba70f76138f992b02d", func := "loop.example/g00883/laws.FnBooleans", spec := "fnBooleans", unfollowed := true, recurses := true, plainKeys := false, apart := false }
def FnBooleansSaid : Prop := fnBooleansRow.holds Tryz.pinned (OpenSpec.ofChange fnBooleansSpec)

/-- ITS FALSE NEIGHBOUR: 'it returns false'. Refute it at one input. -/
def fnBooleansWrong : ChangeSpec := { name := "fnBooleans", fn := fun _ => fun
  | [d1, d2] => { results := [.lit (.bool false)], args := [d1, d2] }
  | _ => none }
def FnBooleansWrongFalsely : Prop := fnBooleansRow.holds Tryz.pinned (OpenSpec.ofChange fnBooleansWrong)

/-- 'laws.FnNesting': WHATEVER THE INPUT: true; the input reads as it did. -/
def fnNestingSpec : ChangeSpec := { name := "fnNesting", fn := fun _ => fun
  | [d] => { results := [.lit (.bool true)], args := [d] }
  | _ => none }
def fnNestingRow : OpenClaim := { program := "ytpncbbcmoiiipaagreat", sum := "021d8101af8796313d5dabd9d14a6e2cacaafc31bc1704ba70f76138f992b02d", func := "loop.example/g00883/laws.FnNesting", spec := "fnNesting", unfollowed := true, recurses := true, plainKeys := false, apart := false }
def FnNestingSaid : Prop := fnNestingRow.holds Tryz.pinned (OpenSpec.ofChange fnNestingSpec)

/-- ITS FALSE NEIGHBOUR: 'it returns false'. Refute it at one input. -/
def fnNestingWrong : ChangeSpec := { name := "fnNesting", fn := fun _ => fun
  | [d] => { results := [.lit (.bool false)], args := [d] }
  | _ => none }
def FnNestingWrongFalsely : Prop := fnNestingRow.holds Tryz.pinned (OpenSpec.ofChange fnNestingWrong)

/-- 'laws.FnExactStrokeCubics': WHATEVER THE INPUT: true; the input reads as it did. -/
def fnExactStrokeCubicsSpec : ChangeSpec := { name := "fnExactStrokeCubics", fn := fun _ => fun
  | [d1, d2, d3] => { results := [.lit (.bool true)], args := [d1, d2, d3] }
  | _ => none }
def fnExactStrokeCubicsRow : OpenClaim := { program := "ytpncbbcmoiiipaagreat", sum := "021d8101af8796313d5dabd9d14a6e2cacaafc31bc1704ba70f76138f992b02d", func := "loop.example/g00883/laws.FnExactStrokeCubics", spec := "fnExactStrokeCubics", unfollowed := true, recurses := true, plainKeys := false, apart := false }
def FnExactStrokeCubicsSaid : Prop := fnExactStrokeCubicsRow.holds Tryz.pinned (OpenSpec.ofChange fnExactStrokeCubicsSpec)

/-- ITS FALSE NEIGHBOUR: 'it returns false'. Refute it at one input. -/
def fnExactStrokeCubicsWrong : ChangeSpec := { name := "fnExactStrokeCubics", fn := fun _ => fun
  | [d1, d2, d3] => { results := [.lit (.bool false)], args := [d1, d2, d3] }
  | _ => none }
def FnExactStrokeCubicsWrongFalsely : Prop := fnExactStrokeCubicsRow.holds Tryz.pinned (OpenSpec.ofChange fnExactStrokeCubicsWrong)

/- THE SECOND FORM. 'bulk': how many values and letters a reading holds, each counted each time it is reached (what is shared counts as often as it is met; a slice's spare places count too). A statement '..UptoSaid' is the law's where the arguments, and the package variables that the reading takes, are together of bulk at most 1048576: NARROWER than '..Said'. Prove '..Said' where nothing that the law and all that it calls make is longer than what came in: it says more and counts as full. Else prove '..UptoSaid'. A law counts once. -/
mutual
def uptoBulk {H : Type} : DataW H → Nat
  | .lit (.string bytes) => bytes.length + 1
  | .lit _ => 1
  | .nil => 1
  | .ptr d => uptoBulk d + 1
  | .slice elems spare => uptoBulkAll elems + uptoBulkAll spare + 1
  | .agg parts => uptoBulkAll parts + 1
  | .iface _ d => uptoBulk d + 1
  | .map entries => uptoBulkEntries entries + 1
  | .held _ => 1
def uptoBulkAll {H : Type} : List (DataW H) → Nat
  | [] => 0
  | d :: r => uptoBulk d + uptoBulkAll r
def uptoBulkEntries {H : Type} : List (Lit × DataW H) → Nat
  | [] => 0
  | x :: r => uptoBulkEntry x + uptoBulkEntries r
def uptoBulkEntry {H : Type} : Lit × DataW H → Nat
  | (.string bytes, d) => bytes.length + uptoBulk d + 1
  | (_, d) => uptoBulk d + 1
 end
def uptoSmall : (H : Type) → List (DataW H) → Bool := fun _ ds => decide (uptoBulkAll ds ≤ 1048576)
def OpenSpec.upto (s : _root_.Go.ChangeSpec) : _root_.Go.OpenSpec := { _root_.Go.OpenSpec.ofChange s with cond := some uptoSmall }

/-- 'laws.FnExactStrokeOf', WHERE WHAT IT READS IS OF BULK AT MOST 1048576: true; the input reads as it did. -/
def fnExactStrokeOfUptoRow : OpenClaim := { program := "ytpncbbcmoiiipaagreat", sum := "021d8101af8796313d5dabd9d14a6e2cacaafc31bc1704ba70f76138f992b02d", func := "loop.example/g00883/laws.FnExactStrokeOf", spec := "fnExactStrokeOf", unfollowed := true, recurses := true, plainKeys := false, apart := false, narrowed := true }
def FnExactStrokeOfUptoSaid : Prop := fnExactStrokeOfUptoRow.holds Tryz.pinned (OpenSpec.upto fnExactStrokeOfSpec)

/-- 'laws.FnExactWidenRegion', WHERE WHAT IT READS IS OF BULK AT MOST 1048576: true; the input reads as it did. -/
def fnExactWidenRegionUptoRow : OpenClaim := { program := "ytpncbbcmoiiipaagreat", sum := "021d8101af8796313d5dabd9d14a6e2cacaafc31bc1704ba70f76138f992b02d", func := "loop.example/g00883/laws.FnExactWidenRegion", spec := "fnExactWidenRegion", unfollowed := true, recurses := true, plainKeys := false, apart := false, narrowed := true }
def FnExactWidenRegionUptoSaid : Prop := fnExactWidenRegionUptoRow.holds Tryz.pinned (OpenSpec.upto fnExactWidenRegionSpec)

/-- 'laws.FnExactShrinkRegion', WHERE WHAT IT READS IS OF BULK AT MOST 1048576: true; the input reads as it did. -/
def fnExactShrinkRegionUptoRow : OpenClaim := { program := "ytpncbbcmoiiipaagreat", sum := "021d8101af8796313d5dabd9d14a6e2cacaafc31bc1704ba70f76138f992b02d", func := "loop.example/g00883/laws.FnExactShrinkRegion", spec := "fnExactShrinkRegion", unfollowed := true, recurses := true, plainKeys := false, apart := false, narrowed := true }
def FnExactShrinkRegionUptoSaid : Prop := fnExactShrinkRegionUptoRow.holds Tryz.pinned (OpenSpec.upto fnExactShrinkRegionSpec)

/-- 'laws.FnExactNestingOf', WHERE WHAT IT READS IS OF BULK AT MOST 1048576: true; the input reads as it did. -/
def fnExactNestingOfUptoRow : OpenClaim := { program := "ytpncbbcmoiiipaagreat", sum := "021d8101af8796313d5dabd9d14a6e2cacaafc31bc1704ba70f76138f992b02d", func := "loop.example/g00883/laws.FnExactNestingOf", spec := "fnExactNestingOf", unfollowed := true, recurses := true, plainKeys := false, apart := false, narrowed := true }
def FnExactNestingOfUptoSaid : Prop := fnExactNestingOfUptoRow.holds Tryz.pinned (OpenSpec.upto fnExactNestingOfSpec)

/-- 'laws.FnExactPartsOf', WHERE WHAT IT READS IS OF BULK AT MOST 1048576: true; the input reads as it did. -/
def fnExactPartsOfUptoRow : OpenClaim := { program := "ytpncbbcmoiiipaagreat", sum := "021d8101af8796313d5dabd9d14a6e2cacaafc31bc1704ba70f76138f992b02d", func := "loop.example/g00883/laws.FnExactPartsOf", spec := "fnExactPartsOf", unfollowed := true, recurses := true, plainKeys := false, apart := false, narrowed := true }
def FnExactPartsOfUptoSaid : Prop := fnExactPartsOfUptoRow.holds Tryz.pinned (OpenSpec.upto fnExactPartsOfSpec)

/-- 'laws.FnOverlap', WHERE WHAT IT READS IS OF BULK AT MOST 1048576: true; the input reads as it did. -/
def fnOverlapUptoRow : OpenClaim := { program := "ytpncbbcmoiiipaagreat", sum := "021d8101af8796313d5dabd9d14a6e2cacaafc31bc1704ba70f76138f992b02d", func := "loop.example/g00883/laws.FnOverlap", spec := "fnOverlap", unfollowed := true, recurses := true, plainKeys := false, apart := false, narrowed := true }
def FnOverlapUptoSaid : Prop := fnOverlapUptoRow.holds Tryz.pinned (OpenSpec.upto fnOverlapSpec)

/-- 'laws.FnBooleans', WHERE WHAT IT READS IS OF BULK AT MOST 1048576: true; the input reads as it did. -/
def fnBooleansUptoRow : OpenClaim := { program := "ytpncbbcmoiiipaagreat", sum := "021d8101af8796313d5dabd9d14a6e2cacaafc31bc1704ba70f76138f992b02d", func := "loop.example/g00883/laws.FnBooleans", spec := "fnBooleans", unfollowed := true, recurses := true, plainKeys := false, apart := false, narrowed := true }
def FnBooleansUptoSaid : Prop := fnBooleansUptoRow.holds Tryz.pinned (OpenSpec.upto fnBooleansSpec)

/-- 'laws.FnNesting', WHERE WHAT IT READS IS OF BULK AT MOST 1048576: true; the input reads as it did. -/
def fnNestingUptoRow : OpenClaim := { program := "ytpncbbcmoiiipaagreat", sum := "021d8101af8796313d5dabd9d14a6e2cacaafc31bc1704ba70f76138f992b02d", func := "loop.example/g00883/laws.FnNesting", spec := "fnNesting", unfollowed := true, recurses := true, plainKeys := false, apart := false, narrowed := true }
def FnNestingUptoSaid : Prop := fnNestingUptoRow.holds Tryz.pinned (OpenSpec.upto fnNestingSpec)

/-- 'laws.FnExactStrokeCubics', WHERE WHAT IT READS IS OF BULK AT MOST 1048576: true; the input reads as it did. -/
def fnExactStrokeCubicsUptoRow : OpenClaim := { program := "ytpncbbcmoiiipaagreat", sum := "021d8101af8796313d5dabd9d14a6e2cacaafc31bc1704ba70f76138f992b02d", func := "loop.example/g00883/laws.FnExactStrokeCubics", spec := "fnExactStrokeCubics", unfollowed := true, recurses := true, plainKeys := false, apart := false, narrowed := true }
def FnExactStrokeCubicsUptoSaid : Prop := fnExactStrokeCubicsUptoRow.holds Tryz.pinned (OpenSpec.upto fnExactStrokeCubicsSpec)

end Rows
end Go.Proofs.YtpncbbcmoiiipaaGreat
