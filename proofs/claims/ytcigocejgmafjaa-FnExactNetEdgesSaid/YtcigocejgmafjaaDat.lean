/- The calculus of walks: data in memory, read. -/
import Derived.Test.YtcigocejgmafjaaTy
import Derived.Test.YtcigocejgmafjaaRing
namespace Go.Proofs.Ytcigocejgmafjaa
open Go Go.RowKit
set_option linter.unusedVariables false
set_option maxRecDepth 100000

theorem vb {a b : Bool} (h : a = b) : some (Value.bool a) = some (Value.bool b) := by rw [h]
theorem vi {a b : Int} (h : a = b) : some (Value.int .i64 a) = some (Value.int .i64 b) := by rw [h]
theorem retB {a b : Bool} (h : a = b) : Ending.returned (.bool a) = Ending.returned (.bool b) := by rw [h]
theorem retI {a b : Int} (h : a = b) : Ending.returned (.int .i64 a) = Ending.returned (.int .i64 b) := by rw [h]
/-- A contract that leaves the world alone. -/
theorem Calls.still {P : Program} {f : FuncId} {args : Array Value} {w : World} {v : Value} (h : Calls P f args w fun e w' => e = .returned v ∧ w = w') : Calls P f args w fun e w' => e = .returned v ∧ Over w w' := h.mono fun e w' ⟨he, hw⟩ => ⟨he, hw ▸ Over.refl _⟩

section
variable {w : World} {w0 : Bs} {Rs : List Res}
def ptCells (p : Int × Int) : List Value := [.int .i64 p.1, .int .i64 p.2]
end

/-! ### A drawn region: what an operation has made may be leaned on from here -/
theorem wpAnyG_base {P : Program} {md : Region.Mode} {ops : Array Oper} {Q : Exit → Act → World → Prop} {B B' : Base} (hB : ∀ w, B'.holds w → B.holds w) {f : Nat} :
  ∀ (fuel : Nat) (listed : Array Bool) (a : Act) (W : World), wpAnyG P md ops Q B' f fuel listed a W → wpAnyG P md ops Q B f fuel listed a W
 | 0, _, _, _, h => h
 | fuel + 1, listed, a, W, h => ⟨h.1, fun i hi w hw => ⟨fun hf => wpOp_mono (fun a' w' h' => ⟨hB _ h'.1, wpAnyG_base hB fuel _ a' w' h'.2⟩) ((h.2 i hi w hw).1 hf), (h.2 i hi w hw).2⟩⟩
theorem dr_more {P : Program} {n f fuel : Nat} {env : List (Nat × Value)} {w0 : Bs} {Rs Rs0 : List Res} {ops : Array Oper} {listed : Array Bool} {Q : Exit → Act → World → Prop} (hsub : ∀ w, St w0 Rs w → St w0 Rs0 w)
  (h : At n env w0 Rs (fun a w => wpAnyG P .any ops Q (stB w0 Rs) f fuel listed a w)) : At n env w0 Rs (fun a w => St w0 Rs0 w ∧ wpAnyG P .any ops Q (stB w0 Rs0) f fuel listed a w) :=
 fun a w hf hs => ⟨hsub w hs, wpAnyG_base (B := stB w0 Rs0) (B' := stB w0 Rs) hsub fuel listed a w (h a w hf hs)⟩
end Go.Proofs.Ytcigocejgmafjaa
