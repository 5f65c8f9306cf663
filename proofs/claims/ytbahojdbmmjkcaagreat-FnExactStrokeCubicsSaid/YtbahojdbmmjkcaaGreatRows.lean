/-
  No cell of these rows narrows 'for every input' (looked for: loops, veiled, ifaces, maps, wideKeys, modest, calm, conditions, laid).
  DERIVED. THE GIVEN ROWS OF THIS SEAT. 4 by the template 'for every input the law returns true; each argument reads behind the call as it read before'; 0 by the template 'total and deterministic' (their statements: YtbahojdbmmjkcaaGreatTotals.lean).
  GIVEN WITH THE SEED: the statements are not yours to turn. If you find one false, say at which input.
  Laid BY PROGRAM, IN A SANDBOX (cutbox-rows.mjs): the forced cells as the released guide's own fill.sh prints them over the translation 5be41efc3a36258d… (all of the seat's roots in one cut). By AI agents, Wed Nov 11 2026. No macro, syntax, notation, axiom, sorry.
-/
import Derived.Test.YtbahojdbmmjkcaaGreatChecked
import GoSem.Claim
import GoSem.ClaimJoined
import GoSem.ClaimMapViews
import Derived.JoinedTies
import Derived.KernelRfl
namespace Go.Proofs.YtbahojdbmmjkcaaGreat
/- THE CELL 'sum', in the pinned program and in every row, IS THE sha256 OF THE DUMP (.gsa) THAT YtbahojdbmmjkcaaGreatProg.lean LOADS. Nothing in Lean hashes anything: it is a label: what it is worth is what the hold of that sum in a sandbox is worth. -/
noncomputable def Tryz.pinned : Pinned := { name := "ytbahojdbmmjkcaagreat", sum := "5be41efc3a36258d7827aa518a0f4aa0011277718317572d3a270d3be6a669db", checked := Tryz.checked }
namespace Rows
def none {H : Type} : Left H := { results := [], args := [] }

/-- 'laws.FnBooleans': WHATEVER THE INPUT: true; the input reads as it did. -/
def fnBooleansSpec : ChangeSpec := { name := "fnBooleans", fn := fun _ => fun
  | [d1, d2] => { results := [.lit (.bool true)], args := [d1, d2] }
  | _ => none }
def fnBooleansRow : OpenClaim := { program := "ytbahojdbmmjkcaagreat", sum := "5be41efc3a36258d7827aa518a0f4aa0011277718317572d3a270d3be6a669db", func := "loop.example/g00883/laws.FnBooleans", spec := "fnBooleans", unfollowed := true, recurses := true, plainKeys := false, apart := false }
def FnBooleansSaid : Prop := fnBooleansRow.holds Tryz.pinned (OpenSpec.ofChange fnBooleansSpec)

/-- ITS FALSE NEIGHBOUR: 'it returns false'. Refute it at one input. -/
def fnBooleansWrong : ChangeSpec := { name := "fnBooleans", fn := fun _ => fun
  | [d1, d2] => { results := [.lit (.bool false)], args := [d1, d2] }
  | _ => none }
def FnBooleansWrongFalsely : Prop := fnBooleansRow.holds Tryz.pinned (OpenSpec.ofChange fnBooleansWrong)

/-- 'laws.FnExactPartsOf': WHATEVER THE INPUT: true; the input reads as it did. -/
def fnExactPartsOfSpec : ChangeSpec := { name := "fnExactPartsOf", fn := fun _ => fun
  | [d] => { results := [.lit (.bool true)], args := [d] }
  | _ => none }
def fnExactPartsOfRow : OpenClaim := { program := "ytbahojdbmmjkcaagreat", sum := "5be41efc3a36258d7827aa518a0f4aa0011277718317572d3a270d3be6a669db", func := "loop.example/g00883/laws.FnExactPartsOf", spec := "fnExactPartsOf", unfollowed := true, recurses := true, plainKeys := false, apart := false }
def FnExactPartsOfSaid : Prop := fnExactPartsOfRow.holds Tryz.pinned (OpenSpec.ofChange fnExactPartsOfSpec)

/-- ITS FALSE NEIGHBOUR: 'it returns false'. Refute it at one input. -/
def fnExactPartsOfWrong : ChangeSpec := { name := "fnExactPartsOf", fn := fun _ => fun
  | [d] => { results := [.lit (.bool false)], args := [d] }
  | _ => none }
def FnExactPartsOfWrongFalsely : Prop := fnExactPartsOfRow.holds Tryz.pinned (OpenSpec.ofChange fnExactPartsOfWrong)

/-- 'laws.FnExactStrokeCubics': WHATEVER THE INPUT: true; the input reads as it did. -/
def fnExactStrokeCubicsSpec : ChangeSpec := { name := "fnExactStrokeCubics", fn := fun _ => fun
  | [d1, d2, d3] => { results := [.lit (.bool true)], args := [d1, d2, d3] }
  | _ => none }
def fnExactStrokeCubicsRow : OpenClaim := { program := "ytbahojdbmmjkcaagreat", sum := "5be41efc3a36258d7827aa518a0f4aa0011277718317572d3a270d3be6a669db", func := "loop.example/g00883/laws.FnExactStrokeCubics", spec := "fnExactStrokeCubics", unfollowed := true, recurses := true, plainKeys := false, apart := false }
def FnExactStrokeCubicsSaid : Prop := fnExactStrokeCubicsRow.holds Tryz.pinned (OpenSpec.ofChange fnExactStrokeCubicsSpec)

/-- ITS FALSE NEIGHBOUR: 'it returns false'. Refute it at one input. -/
def fnExactStrokeCubicsWrong : ChangeSpec := { name := "fnExactStrokeCubics", fn := fun _ => fun
  | [d1, d2, d3] => { results := [.lit (.bool false)], args := [d1, d2, d3] }
  | _ => none }
def FnExactStrokeCubicsWrongFalsely : Prop := fnExactStrokeCubicsRow.holds Tryz.pinned (OpenSpec.ofChange fnExactStrokeCubicsWrong)

/-- 'laws.FnNesting': WHATEVER THE INPUT: true; the input reads as it did. -/
def fnNestingSpec : ChangeSpec := { name := "fnNesting", fn := fun _ => fun
  | [d] => { results := [.lit (.bool true)], args := [d] }
  | _ => none }
def fnNestingRow : OpenClaim := { program := "ytbahojdbmmjkcaagreat", sum := "5be41efc3a36258d7827aa518a0f4aa0011277718317572d3a270d3be6a669db", func := "loop.example/g00883/laws.FnNesting", spec := "fnNesting", unfollowed := true, recurses := true, plainKeys := false, apart := false }
def FnNestingSaid : Prop := fnNestingRow.holds Tryz.pinned (OpenSpec.ofChange fnNestingSpec)

/-- ITS FALSE NEIGHBOUR: 'it returns false'. Refute it at one input. -/
def fnNestingWrong : ChangeSpec := { name := "fnNesting", fn := fun _ => fun
  | [d] => { results := [.lit (.bool false)], args := [d] }
  | _ => none }
def FnNestingWrongFalsely : Prop := fnNestingRow.holds Tryz.pinned (OpenSpec.ofChange fnNestingWrong)

/- THE SECOND FORM. 'bulk': how many values and letters a reading holds, each counted each time it is reached (what is shared counts as often as it is met; a slice's spare places count too). A statement '..UptoSaid' is the law's where the arguments, and the package variables that the reading takes, are together of bulk at most 1048576: NARROWER than '..Said'. Prove '..Said' where nothing that the law and all that it calls make is longer than what came in: it says more and counts as full. Else prove '..UptoSaid'. A law counts once. -/
mutual
def uptoBulk {H : Type} : DataW H → Nat
  | .lit (.string bytes) => bytes.length + 1
  | .lit _ => 1
  | .nil => 1
  | .ptr d => uptoBulk d + 1
  | .slice elems spare => uptoBulkAll elems + uptoBulkAll spare + 1
  | .agg parts => uptoBulkAll parts + 1
  | .iface _ d => uptoBulk d + 1
  | .map entries => uptoBulkEntries entries + 1
  | .held _ => 1
def uptoBulkAll {H : Type} : List (DataW H) → Nat
  | [] => 0
  | d :: r => uptoBulk d + uptoBulkAll r
def uptoBulkEntries {H : Type} : List (Lit × DataW H) → Nat
  | [] => 0
  | x :: r => uptoBulkEntry x + uptoBulkEntries r
def uptoBulkEntry {H : Type} : Lit × DataW H → Nat
  | (.string bytes, d) => bytes.length + uptoBulk d + 1
  | (_, d) => uptoBulk d + 1
 end
def uptoSmall : (H : Type) → List (DataW H) → Bool := fun _ ds => decide (uptoBulkAll ds ≤ 1048576)
def OpenSpec.upto (s : _root_.Go.ChangeSpec) : _root_.Go.OpenSpec := { _root_.Go.OpenSpec.ofChange s with cond := some uptoSmall }

/-- 'laws.FnBooleans', WHERE WHAT IT READS IS OF BULK AT MOST 1048576: true; the input reads as it did. -/
def fnBooleansUptoRow : OpenClaim := { program := "ytbahojdbmmjkcaagreat", sum := "5be41efc3a36258d7827aa518a0f4aa0011277718317572d3a270d3be6a669db", func := "loop.example/g00883/laws.FnBooleans", spec := "fnBooleans", unfollowed := true, recurses := true, plainKeys := false, apart := false, narrowed := true }
def FnBooleansUptoSaid : Prop := fnBooleansUptoRow.holds Tryz.pinned (OpenSpec.upto fnBooleansSpec)

/-- 'laws.FnExactPartsOf', WHERE WHAT IT READS IS OF BULK AT MOST 1048576: true; the input reads as it did. -/
def fnExactPartsOfUptoRow : OpenClaim := { program := "ytbahojdbmmjkcaagreat", sum := "5be41efc3a36258d7827aa518a0f4aa0011277718317572d3a270d3be6a669db", func := "loop.example/g00883/laws.FnExactPartsOf", spec := "fnExactPartsOf", unfollowed := true, recurses := true, plainKeys := false, apart := false, narrowed := true }
def FnExactPartsOfUptoSaid : Prop := fnExactPartsOfUptoRow.holds Tryz.pinned (OpenSpec.upto fnExactPartsOfSpec)

/-- 'laws.FnExactStrokeCubics', WHERE WHAT IT READS IS OF BULK AT MOST 1048576: true; the input reads as it did. -/
def fnExactStrokeCubicsUptoRow : OpenClaim := { program := "ytbahojdbmmjkcaagreat", sum := "5be41efc3a36258d7827aa518a0f4aa0011277718317572d3a270d3be6a669db", func := "loop.example/g00883/laws.FnExactStrokeCubics", spec := "fnExactStrokeCubics", unfollowed := true, recurses := true, plainKeys := false, apart := false, narrowed := true }
def FnExactStrokeCubicsUptoSaid : Prop := fnExactStrokeCubicsUptoRow.holds Tryz.pinned (OpenSpec.upto fnExactStrokeCubicsSpec)

/-- 'laws.FnNesting', WHERE WHAT IT READS IS OF BULK AT MOST 1048576: true; the input reads as it did. -/
def fnNestingUptoRow : OpenClaim := { program := "ytbahojdbmmjkcaagreat", sum := "5be41efc3a36258d7827aa518a0f4aa0011277718317572d3a270d3be6a669db", func := "loop.example/g00883/laws.FnNesting", spec := "fnNesting", unfollowed := true, recurses := true, plainKeys := false, apart := false, narrowed := true }
def FnNestingUptoSaid : Prop := fnNestingUptoRow.holds Tryz.pinned (OpenSpec.upto fnNestingSpec)

end Rows
end Go.Proofs.YtbahojdbmmjkcaaGreat
