/- Rows of numbers. -/
import Derived.Test.YtakdjgldcpompaaHot
namespace Go.Proofs.Ytakdjgldcpompaa
open Go Go.RowKit
set_option linter.unusedVariables false
set_option linter.unusedSimpArgs false

/-! ### Rows of numbers -/
def nth (xs : List Int) (k : Nat) : Int := xs.getD k 0
theorem nth_at {xs : List Int} {k : Nat} (h : k < xs.length) : xs[k] = nth xs k := by simp [nth, List.getD, h]
/-- The slice with address A and length n reads as the numbers xs. -/
def Nums (w : World) (A : Option Addr) (n : Nat) (xs : List Int) : Prop := xs.length = n ∧ (0 < n → ∃ b o, A = some ⟨b, o, none⟩ ∧ b < w.heap.size ∧ ∀ k, k < n → w.cell? ⟨b, o + k, none⟩ = some (.int .i64 (nth xs k)))
theorem Nums.over {w w' : World} {A : Option Addr} {n : Nat} {xs : List Int} (h : Nums w A n xs) (hb : Over w w') : Nums w' A n xs := by
  refine ⟨h.1, fun hn => ?_⟩
  obtain ⟨b, o, hA, hlt, hc⟩ := h.2 hn
  exact ⟨b, o, hA, Nat.lt_of_lt_of_le hlt hb.size, fun k hk => ((ocell hb).1 b _ hlt).trans (hc k hk)⟩
theorem numsRow {w : World} {B T n : Nat} {A : Option Addr} {c : Nat} {xs : List Int} (h : w.ownsRow B T 1 (.slice A n c) n (xs.map (Value.int .i64))) : Nums w A n xs := by
  have hn : xs.length = n := by have := h.1; simpa using this
  refine ⟨hn, fun h0 => ?_⟩
  rcases h.2 with ⟨_, e⟩ | ⟨g, cap, cur, e, hb, hg, hcap, hmax, hsz, htk⟩
  · omega
  · injection e with e1 e2 e3
    subst e1
    refine ⟨g, 0, rfl, lt_of_some hg, fun k hk => ?_⟩
    rw [cell_of_row w g _ _ T (0, 0) hg, Nat.zero_add]
    have h1 : (cur.toList.take (n * 1))[k]? = (xs.map (Value.int .i64))[k]? := by rw [htk]
    rw [List.getElem?_take, if_pos (by omega), List.getElem?_map, List.getElem?_eq_getElem (show k < xs.length by omega), nth_at (by omega)] at h1
    simpa using h1
theorem rdNums {b o m j : Nat} {xs : List Int} {w : World} {Rs : List Res} (h : Nums w (some ⟨b, o, none⟩) m xs) (hj : j < m) : ∀ w', St ⟨w, []⟩ Rs w' → w'.cell? ⟨b, o + j * 1, none⟩ = some (.int .i64 (nth xs j)) := fun w' hs => by
  obtain ⟨b', o', e, _, hc⟩ := (h.over hs.fin).2 (by omega)
  injection e with e
  injection e with e1 e2 _
  subst e1 e2
  rw [Nat.mul_one]
  exact hc j hj
end Go.Proofs.Ytakdjgldcpompaa
