/- The bounds of a list of points. -/
import Derived.Test.YtjhaakollekjeaaRegion
import Derived.Test.YtjhaakollekjeaaReg2
namespace Go.Proofs.Ytjhaakollekjeaa
open Go Go.RowKit
set_option linter.unusedVariables false
set_option linter.unusedSimpArgs false

/-- Block b is a point variable that holds x and y. -/
def Box2 (w : World) (b : Nat) (x y : Int) : Prop :=
 b < w.heap.size ∧ w.cell? ⟨b, 0, none⟩ = some (.int .i64 x) ∧ w.cell? ⟨b, 1, none⟩ = some (.int .i64 y) ∧ w.frozen? ⟨b, 0, none⟩ = false ∧ w.frozen? ⟨b, 1, none⟩ = false
theorem Box2.over {w w' : World} {b : Nat} {x y : Int} (h : Box2 w b x y) (ho : Over w w') : Box2 w' b x y := by
 obtain ⟨hc, hf⟩ := ocell ho
 obtain ⟨h0, h1, h2, h3, h4⟩ := h
 exact ⟨Nat.lt_of_lt_of_le h0 ho.size, (hc _ _ h0).trans h1, (hc _ _ h0).trans h2, (hf _ _ h0).trans h3, (hf _ _ h0).trans h4⟩
theorem frozen_set (w : World) (p q : Addr) (u : Value) : (w.setCell p u).frozen? q = w.frozen? q := World.frozen?_setCell w p q u
theorem Box2.far {w : World} {b : Nat} {x y : Int} (h : Box2 w b x y) {p : Addr} (hp : p.block ≠ b) (u : Value) : Box2 (w.setCell p u) b x y := by
 obtain ⟨h0, h1, h2, h3, h4⟩ := h
 refine ⟨by simpa [World.setCell] using h0, ?_, ?_, (frozen_set ..).trans h3, (frozen_set ..).trans h4⟩
 ·rw [World.cell?_setCell_other _ _ _ _ (fun e => hp (by rw [e]))]; exact h1
 ·rw [World.cell?_setCell_other _ _ _ _ (fun e => hp (by rw [e]))]; exact h2
theorem Box2.set_ {w : World} {b : Nat} {x y : Int} (h : Box2 w b x y) (x' y' : Int) : Box2 ((w.setCell ⟨b, 0, none⟩ (.int .i64 x')).setCell ⟨b, 1, none⟩ (.int .i64 y')) b x' y' := by
 obtain ⟨h0, h1, h2, h3, h4⟩ := h
 have h2' : (w.setCell ⟨b, 0, none⟩ (.int .i64 x')).cell? ⟨b, 1, none⟩ = some (.int .i64 y) := by rw [World.cell?_setCell_other _ _ _ _ (by simp)]; exact h2
 refine ⟨by simpa [World.setCell] using h0, ?_, World.cell?_setCell_same _ _ _ h2', (frozen_set ..).trans ((frozen_set ..).trans h3), (frozen_set ..).trans ((frozen_set ..).trans h4)⟩
 rw [World.cell?_setCell_other _ _ _ _ (by simp)]
 exact World.cell?_setCell_same _ _ _ h1

theorem Box2.new (w : World) (x y : Int) (T g : Nat) (hg : g = w.heap.size) : Box2 (w.alloc (.cells #[.int .i64 x, .int .i64 y] T)) g x y := by
 subst hg
 have hh := heap_alloc_new w (.cells #[.int .i64 x, .int .i64 y] T)
 refine ⟨by simp, cell_new _ _ _ _, cell_new _ _ _ _, ?_, ?_⟩ <;> (unfold World.frozen?; rw [hh]; rfl)

theorem Box2.row {w : World} {b : Nat} {x y : Int} {t : TypeId} (h : w.heap[b]? = some (.cells (Value.agg #[.int .i64 x, .int .i64 y]).cells t (0, 0))) (hl : b < w.heap.size) : Box2 w b x y := by
 obtain ⟨k1, k2, k3, k4⟩ := two_cells h
 exact ⟨hl, k1, k2, k3, k4⟩

end Go.Proofs.Ytjhaakollekjeaa
