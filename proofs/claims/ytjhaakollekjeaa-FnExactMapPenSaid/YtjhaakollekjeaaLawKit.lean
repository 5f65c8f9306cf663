/- What the walks of laws about regions lean on. -/
import Derived.Test.YtjhaakollekjeaaTo
namespace Go.Proofs.Ytjhaakollekjeaa
open Go Go.RowKit
set_option linter.unusedVariables false

theorem neSelf (a : Int) : (!(a == a)) = false := by simp
theorem notTrue : (!true) = false := rfl
/-- A region that is not too large. -/
def smallR (rs : List Ring_) : Prop := rs.length ≤ 2000 ∧ ∀ j, j < rs.length → (rg rs j).length ≤ 500
theorem smallR.nil : smallR [] := ⟨by simp, fun j hj => absurd hj (by simp)⟩
theorem smallR.of {rs : List Ring_} (h : regionB rs = true) : smallR rs := ⟨by have := reg_len h; omega, fun j hj => by have := pos_of_ring (regRing h hj); omega⟩
section
variable {w0 : Bs} {Rs : List Res}
theorem ptsS {k n lo hi : Nat} {A : Option Addr} {xs : List (Int × Int)} (hk : Rs[k]? = some (ptsR n xs lo hi A)) (w : World) (hs : St w0 Rs w) : OwnP lo hi w A n xs := ptsG (hs.all k _ hk).1
theorem ptsH {k n lo hi : Nat} {A : Option Addr} {xs : List (Int × Int)} (hk : Rs[k]? = some (ptsR n xs lo hi A)) (w : World) (hs : St w0 Rs w) : hi ≤ w.heap.size := (hs.all k _ hk).1.1
theorem ptsPts {k n lo hi : Nat} {A : Option Addr} {xs : List (Int × Int)} (hk : Rs[k]? = some (ptsR n xs lo hi A)) (w : World) (hs : St w0 Rs w) : Pts w A n xs := (ptsS hk w hs).pts
end
theorem posF (k : Nat) : decide ((1 : Int) + 2 * (k : Int) < 0) = false := decide_eq_false (by omega)
/-! ### Rings as what a call has made -/
/-- Points of the call's own. -/
theorem ptsNew {P : Program} {f : FuncId} {args : Array Value} {w1 : World} {n : Nat} {xs : List (Int × Int)} {V : Option Addr → Nat → Value} (h : Calls P f args w1 fun e w' => ∃ A c, e = .returned (V A c) ∧ OwnP w1.heap.size w'.heap.size w' A n xs ∧ Over w1 w') :
  Calls P f args w1 fun e w' => ∃ x : (Option Addr × Nat) × Nat × Nat, e = .returned (V x.1.1 x.1.2) ∧ Over w1 w' ∧ (ptsR n xs x.2.1 x.2.2 x.1.1).P w' ∧ (∀ b, (ptsR n xs x.2.1 x.2.2 x.1.1).F b → w1.heap.size ≤ b) ∧ (ptsR n xs x.2.1 x.2.2 x.1.1).B = 0 ∧ True := by
 refine h.mono ?_
 rintro e w' ⟨A, c, rfl, ho, hO⟩
 exact ⟨((A, c), w1.heap.size, w'.heap.size), rfl, hO, ptsP ho (Nat.le_refl _), fun b hb => hb.1, rfl, trivial⟩
end Go.Proofs.Ytjhaakollekjeaa
