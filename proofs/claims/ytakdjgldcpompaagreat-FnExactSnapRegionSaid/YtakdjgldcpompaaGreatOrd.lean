/- Rings in order: points compared by rows, rings compared point by point, a ring with its least turn first (plain law). -/
import Derived.Test.YtakdjgldcpompaaGreatStabP
import Derived.Test.YtakdjgldcpompaaGreatHot
namespace Go.Proofs.YtakdjgldcpompaaGreat
open Go Go.RowKit
set_option linter.unusedVariables false
set_option linter.unusedSimpArgs false
set_option maxRecDepth 100000
set_option maxHeartbeats 4000000
set_option linter.unusedVariables false
set_option linter.unusedSimpArgs false

theorem Weak.by {α β : Type} {lt : β → β → Bool} (W : Weak lt) (f : α → β) : Weak fun x y => lt (f x) (f y) := ⟨fun a b h => W.asym _ _ h, fun a b c h1 h2 => W.neg _ _ _ h1 h2⟩

/-! ### Step by step -/
/-! ### A ring with its least turn first -/
/-- Where a ring is put among rings in order. -/
theorem insS_at {α : Type} {lt : α → α → Bool} (W : Weak lt) {l : List α} (hs : Srt lt l) {x : α} {k : Nat} (hk : k ≤ l.length) (hi : ∀ q ∈ l.drop k, lt x q = true) (hlo : k = 0 ∨ ∃ p, l[k - 1]? = some p ∧ lt x p = false) : insS lt x l = l.take k ++ x :: l.drop k := by
 have := insS_cut (lt := lt) x (l.take k) (l.drop k) (fun p hp => ?_) (fun q hq => hi q (List.mem_of_mem_head? hq))
 ·rwa [List.take_append_drop] at this
 ·rcases hlo with rfl | ⟨r, hr, hx⟩
  ·simp at hp
  ·obtain ⟨i, hi', e⟩ := List.getElem_of_mem hp
   rw [List.length_take] at hi'
   rw [List.getElem_take] at e
   obtain ⟨hr1, rfl⟩ := List.getElem?_eq_some_iff.1 hr
   subst e
   rcases Nat.lt_or_eq_of_le (show i ≤ k - 1 by omega) with h1 | rfl
   ·exact W.neg _ _ _ hx (List.pairwise_iff_getElem.1 hs i (k - 1) (by omega) hr1 h1)
   ·exact hx
theorem Pts.dropT {w : World} {b o n c k : Nat} {xs : List Pn} (h : Pts w (some ⟨b, o, none⟩) n xs) (hk : k ≤ n) (hc : n ≤ c) : Pts w (some ⟨b, offL o k c 2, none⟩) (n - k) (xs.drop k) := by
 have hl := h.1
 refine ⟨by rw [List.length_drop, hl], fun h0 => ?_⟩
 obtain ⟨b', o', e, hlt, hx⟩ := h.2 (by omega)
 injection e with e
 injection e with e1 e2
 subst e1 e2
 refine ⟨_, _, rfl, hlt, fun j hj => ?_⟩
 have hd : ∀ j, px (xs.drop k) j = px xs (k + j) ∧ py (xs.drop k) j = py xs (k + j) := fun j => by
  simp only [px, py, List.getD_eq_getElem?_getD, List.getElem?_drop]
  exact ⟨trivial, trivial⟩
 rw [offL, if_neg (by omega), (hd j).1, (hd j).2, show o + k * 2 + j * 2 = o + (k + j) * 2 by omega]
 exact hx (k + j) (by omega)
end Go.Proofs.YtakdjgldcpompaaGreat
