/-
  No cell of these rows narrows 'for every input' (looked for: loops, veiled, ifaces, maps, wideKeys, modest, calm, conditions, laid).
  DERIVED. THE GIVEN ROWS OF THIS SEAT. 3 by the template 'for every input the law returns true; each argument reads behind the call as it read before'; 0 by the template 'total and deterministic' (their statements: YtjhaakollekjeaaTotals.lean).
  GIVEN WITH THE SEED: the statements are not yours to turn. If you find one false, say at which input.
  Laid BY PROGRAM, IN A SANDBOX (cutbox-rows.mjs): the forced cells as the released guide's own fill.sh prints them over the translation dd2dfa01efc598e5… (all of the seat's roots in one cut). By AI agents, Wed Nov 11 2026. No macro, syntax, notation, axiom, sorry.
-/
import Derived.Test.YtjhaakollekjeaaChecked
import GoSem.Claim
import GoSem.ClaimJoined
import GoSem.ClaimMapViews
import Derived.JoinedTies
import Derived.KernelRfl
namespace Go.Proofs.Ytjhaakollekjeaa
/- THE CELL 'sum', in the pinned program and in every row, IS THE sha256 OF THE DUMP (.gsa) THAT YtjhaakollekjeaaProg.lean LOADS. Nothing in Lean hashes anything: it is a label: what it is worth is what the hold of that sum in a sandbox is worth. -/
noncomputable def Try.pinned : Pinned := { name := "ytjhaakollekjeaa", sum := "dd2dfa01efc598e519f7337e3fceebeb9a30eec0737e8d1d0cd33782eb8f402a", checked := Try.checked }
namespace Rows
def none {H : Type} : Left H := { results := [], args := [] }

/-- 'laws.FnExactRegionText': WHATEVER THE INPUT: true; the input reads as it did. -/
def fnExactRegionTextSpec : ChangeSpec := { name := "fnExactRegionText", fn := fun _ => fun
  | [d] => { results := [.lit (.bool true)], args := [d] }
  | _ => none }
def fnExactRegionTextRow : OpenClaim := { program := "ytjhaakollekjeaa", sum := "dd2dfa01efc598e519f7337e3fceebeb9a30eec0737e8d1d0cd33782eb8f402a", func := "loop.example/g00883/laws.FnExactRegionText", spec := "fnExactRegionText", inPlace := ["internal/abi.NoEscape", "internal/bytealg.MakeNoZero"], apart := false }
def FnExactRegionTextSaid : Prop := fnExactRegionTextRow.holds Try.pinned (OpenSpec.ofChange fnExactRegionTextSpec)

/-- ITS FALSE NEIGHBOUR: 'it returns false'. Refute it at one input. -/
def fnExactRegionTextWrong : ChangeSpec := { name := "fnExactRegionText", fn := fun _ => fun
  | [d] => { results := [.lit (.bool false)], args := [d] }
  | _ => none }
def FnExactRegionTextWrongFalsely : Prop := fnExactRegionTextRow.holds Try.pinned (OpenSpec.ofChange fnExactRegionTextWrong)

/-- 'laws.FnExactFlattenOutline': WHATEVER THE INPUT: true; the input reads as it did. -/
def fnExactFlattenOutlineSpec : ChangeSpec := { name := "fnExactFlattenOutline", fn := fun _ => fun
  | [d1, d2] => { results := [.lit (.bool true)], args := [d1, d2] }
  | _ => none }
def fnExactFlattenOutlineRow : OpenClaim := { program := "ytjhaakollekjeaa", sum := "dd2dfa01efc598e519f7337e3fceebeb9a30eec0737e8d1d0cd33782eb8f402a", func := "loop.example/g00883/laws.FnExactFlattenOutline", spec := "fnExactFlattenOutline", unfollowed := true, recurses := true, apart := false }
def FnExactFlattenOutlineSaid : Prop := fnExactFlattenOutlineRow.holds Try.pinned (OpenSpec.ofChange fnExactFlattenOutlineSpec)

/-- ITS FALSE NEIGHBOUR: 'it returns false'. Refute it at one input. -/
def fnExactFlattenOutlineWrong : ChangeSpec := { name := "fnExactFlattenOutline", fn := fun _ => fun
  | [d1, d2] => { results := [.lit (.bool false)], args := [d1, d2] }
  | _ => none }
def FnExactFlattenOutlineWrongFalsely : Prop := fnExactFlattenOutlineRow.holds Try.pinned (OpenSpec.ofChange fnExactFlattenOutlineWrong)

/-- 'laws.FnExactMapPen': WHATEVER THE INPUT: true; the input reads as it did. -/
def fnExactMapPenSpec : ChangeSpec := { name := "fnExactMapPen", fn := fun _ => fun
  | [d1, d2] => { results := [.lit (.bool true)], args := [d1, d2] }
  | _ => none }
def fnExactMapPenRow : OpenClaim := { program := "ytjhaakollekjeaa", sum := "dd2dfa01efc598e519f7337e3fceebeb9a30eec0737e8d1d0cd33782eb8f402a", func := "loop.example/g00883/laws.FnExactMapPen", spec := "fnExactMapPen", unfollowed := true, recurses := true, apart := false }
def FnExactMapPenSaid : Prop := fnExactMapPenRow.holds Try.pinned (OpenSpec.ofChange fnExactMapPenSpec)

/-- ITS FALSE NEIGHBOUR: 'it returns false'. Refute it at one input. -/
def fnExactMapPenWrong : ChangeSpec := { name := "fnExactMapPen", fn := fun _ => fun
  | [d1, d2] => { results := [.lit (.bool false)], args := [d1, d2] }
  | _ => none }
def FnExactMapPenWrongFalsely : Prop := fnExactMapPenRow.holds Try.pinned (OpenSpec.ofChange fnExactMapPenWrong)

/- THE SECOND FORM. 'bulk': how many values and letters a reading holds, each counted each time it is reached (what is shared counts as often as it is met; a slice's spare places count too). A statement '..UptoSaid' is the law's where the arguments, and the package variables that the reading takes, are together of bulk at most 1048576: NARROWER than '..Said'. Prove '..Said' where nothing that the law and all that it calls make is longer than what came in: it says more and counts as full. Else prove '..UptoSaid'. A law counts once. -/
mutual
def uptoBulk {H : Type} : DataW H → Nat
  | .lit (.string bytes) => bytes.length + 1
  | .lit _ => 1
  | .nil => 1
  | .ptr d => uptoBulk d + 1
  | .slice elems spare => uptoBulkAll elems + uptoBulkAll spare + 1
  | .agg parts => uptoBulkAll parts + 1
  | .iface _ d => uptoBulk d + 1
  | .map entries => uptoBulkEntries entries + 1
  | .held _ => 1
def uptoBulkAll {H : Type} : List (DataW H) → Nat
  | [] => 0
  | d :: r => uptoBulk d + uptoBulkAll r
def uptoBulkEntries {H : Type} : List (Lit × DataW H) → Nat
  | [] => 0
  | x :: r => uptoBulkEntry x + uptoBulkEntries r
def uptoBulkEntry {H : Type} : Lit × DataW H → Nat
  | (.string bytes, d) => bytes.length + uptoBulk d + 1
  | (_, d) => uptoBulk d + 1
 end
def uptoSmall : (H : Type) → List (DataW H) → Bool := fun _ ds => decide (uptoBulkAll ds ≤ 1048576)
def OpenSpec.upto (s : _root_.Go.ChangeSpec) : _root_.Go.OpenSpec := { _root_.Go.OpenSpec.ofChange s with cond := some uptoSmall }

/-- 'laws.FnExactRegionText', WHERE WHAT IT READS IS OF BULK AT MOST 1048576: true; the input reads as it did. -/
def fnExactRegionTextUptoRow : OpenClaim := { program := "ytjhaakollekjeaa", sum := "dd2dfa01efc598e519f7337e3fceebeb9a30eec0737e8d1d0cd33782eb8f402a", func := "loop.example/g00883/laws.FnExactRegionText", spec := "fnExactRegionText", inPlace := ["internal/abi.NoEscape", "internal/bytealg.MakeNoZero"], apart := false, narrowed := true }
def FnExactRegionTextUptoSaid : Prop := fnExactRegionTextUptoRow.holds Try.pinned (OpenSpec.upto fnExactRegionTextSpec)

/-- 'laws.FnExactFlattenOutline', WHERE WHAT IT READS IS OF BULK AT MOST 1048576: true; the input reads as it did. -/
def fnExactFlattenOutlineUptoRow : OpenClaim := { program := "ytjhaakollekjeaa", sum := "dd2dfa01efc598e519f7337e3fceebeb9a30eec0737e8d1d0cd33782eb8f402a", func := "loop.example/g00883/laws.FnExactFlattenOutline", spec := "fnExactFlattenOutline", unfollowed := true, recurses := true, apart := false, narrowed := true }
def FnExactFlattenOutlineUptoSaid : Prop := fnExactFlattenOutlineUptoRow.holds Try.pinned (OpenSpec.upto fnExactFlattenOutlineSpec)

/-- 'laws.FnExactMapPen', WHERE WHAT IT READS IS OF BULK AT MOST 1048576: true; the input reads as it did. -/
def fnExactMapPenUptoRow : OpenClaim := { program := "ytjhaakollekjeaa", sum := "dd2dfa01efc598e519f7337e3fceebeb9a30eec0737e8d1d0cd33782eb8f402a", func := "loop.example/g00883/laws.FnExactMapPen", spec := "fnExactMapPen", unfollowed := true, recurses := true, apart := false, narrowed := true }
def FnExactMapPenUptoSaid : Prop := fnExactMapPenUptoRow.holds Try.pinned (OpenSpec.upto fnExactMapPenSpec)

end Rows
end Go.Proofs.Ytjhaakollekjeaa
