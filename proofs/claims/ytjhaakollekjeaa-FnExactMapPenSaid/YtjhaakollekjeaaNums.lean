/- Rows of numbers. -/
import Derived.Test.YtjhaakollekjeaaHot
namespace Go.Proofs.Ytjhaakollekjeaa
open Go Go.RowKit
set_option linter.unusedVariables false
set_option linter.unusedSimpArgs false

/-! ### Rows of numbers -/
def nth (xs : List Int) (k : Nat) : Int := xs.getD k 0
/-- The slice with address A and length n reads as the numbers xs. -/
def Nums (w : World) (A : Option Addr) (n : Nat) (xs : List Int) : Prop := xs.length = n ∧ (0 < n → ∃ b o, A = some ⟨b, o, none⟩ ∧ b < w.heap.size ∧ ∀ k, k < n → w.cell? ⟨b, o + k, none⟩ = some (.int .i64 (nth xs k)))
theorem Nums.over {w w' : World} {A : Option Addr} {n : Nat} {xs : List Int} (h : Nums w A n xs) (hb : Over w w') : Nums w' A n xs := by
 refine ⟨h.1, fun hn => ?_⟩
 obtain ⟨b, o, hA, hlt, hc⟩ := h.2 hn
 exact ⟨b, o, hA, Nat.lt_of_lt_of_le hlt hb.size, fun k hk => ((ocell hb).1 b _ hlt).trans (hc k hk)⟩
end Go.Proofs.Ytjhaakollekjeaa
