/- The bounds of a list of points. -/
import Derived.Test.YtbdlbemlgghgbaaRegion
import Derived.Test.YtbdlbemlgghgbaaReg2
namespace Go.Proofs.Ytbdlbemlgghgbaa
open Go Go.RowKit
set_option linter.unusedVariables false
set_option linter.unusedSimpArgs false

/-- The bounds of the first k points (k from 1 on). -/
def loX (xs : List (Int × Int)) : Nat → Int
  | 0 => px xs 0
  | k + 1 => if k = 0 then px xs 0 else min (loX xs k) (px xs k)
def loY (xs : List (Int × Int)) : Nat → Int
  | 0 => py xs 0
  | k + 1 => if k = 0 then py xs 0 else min (loY xs k) (py xs k)
def hiX (xs : List (Int × Int)) : Nat → Int
  | 0 => px xs 0
  | k + 1 => if k = 0 then px xs 0 else max (hiX xs k) (px xs k)
def hiY (xs : List (Int × Int)) : Nat → Int
  | 0 => py xs 0
  | k + 1 => if k = 0 then py xs 0 else max (hiY xs k) (py xs k)
theorem bds_succ (xs : List (Int × Int)) {k : Nat} (h : 1 ≤ k) : loX xs (k + 1) = min (loX xs k) (px xs k) ∧ loY xs (k + 1) = min (loY xs k) (py xs k) ∧ hiX xs (k + 1) = max (hiX xs k) (px xs k) ∧ hiY xs (k + 1) = max (hiY xs k) (py xs k) := by
  have h0 : ¬ k = 0 := by omega
  simp only [loX, loY, hiX, hiY, if_neg h0, and_self]
theorem bds_one (xs : List (Int × Int)) : loX xs 1 = px xs 0 ∧ loY xs 1 = py xs 0 ∧ hiX xs 1 = px xs 0 ∧ hiY xs 1 = py xs 0 := by
  simp [loX, loY, hiX, hiY]

/-- Block b is a point variable that holds x and y. -/
def Box2 (w : World) (b : Nat) (x y : Int) : Prop :=
  b < w.heap.size ∧ w.cell? ⟨b, 0, none⟩ = some (.int .i64 x) ∧ w.cell? ⟨b, 1, none⟩ = some (.int .i64 y) ∧ w.frozen? ⟨b, 0, none⟩ = false ∧ w.frozen? ⟨b, 1, none⟩ = false
theorem Box2.over {w w' : World} {b : Nat} {x y : Int} (h : Box2 w b x y) (ho : Over w w') : Box2 w' b x y := by
  obtain ⟨hc, hf⟩ := ocell ho
  obtain ⟨h0, h1, h2, h3, h4⟩ := h
  exact ⟨Nat.lt_of_lt_of_le h0 ho.size, (hc _ _ h0).trans h1, (hc _ _ h0).trans h2, (hf _ _ h0).trans h3, (hf _ _ h0).trans h4⟩
theorem frozen_set (w : World) (p q : Addr) (u : Value) : (w.setCell p u).frozen? q = w.frozen? q := World.frozen?_setCell w p q u
theorem Box2.far {w : World} {b : Nat} {x y : Int} (h : Box2 w b x y) {p : Addr} (hp : p.block ≠ b) (u : Value) : Box2 (w.setCell p u) b x y := by
  obtain ⟨h0, h1, h2, h3, h4⟩ := h
  refine ⟨by simpa [World.setCell] using h0, ?_, ?_, (frozen_set ..).trans h3, (frozen_set ..).trans h4⟩
  · rw [World.cell?_setCell_other _ _ _ _ (fun e => hp (by rw [e]))]; exact h1
  · rw [World.cell?_setCell_other _ _ _ _ (fun e => hp (by rw [e]))]; exact h2
theorem Box2.set_ {w : World} {b : Nat} {x y : Int} (h : Box2 w b x y) (x' y' : Int) : Box2 ((w.setCell ⟨b, 0, none⟩ (.int .i64 x')).setCell ⟨b, 1, none⟩ (.int .i64 y')) b x' y' := by
  obtain ⟨h0, h1, h2, h3, h4⟩ := h
  have h2' : (w.setCell ⟨b, 0, none⟩ (.int .i64 x')).cell? ⟨b, 1, none⟩ = some (.int .i64 y) := by rw [World.cell?_setCell_other _ _ _ _ (by simp)]; exact h2
  refine ⟨by simpa [World.setCell] using h0, ?_, World.cell?_setCell_same _ _ _ h2', (frozen_set ..).trans ((frozen_set ..).trans h3), (frozen_set ..).trans ((frozen_set ..).trans h4)⟩
  rw [World.cell?_setCell_other _ _ _ _ (by simp)]
  exact World.cell?_setCell_same _ _ _ h1

theorem Box2.new (w : World) (x y : Int) (T g : Nat) (hg : g = w.heap.size) : Box2 (w.alloc (.cells #[.int .i64 x, .int .i64 y] T)) g x y := by
  subst hg
  have hh := heap_alloc_new w (.cells #[.int .i64 x, .int .i64 y] T)
  refine ⟨by simp, cell_new _ _ _ _, cell_new _ _ _ _, ?_, ?_⟩ <;> (unfold World.frozen?; rw [hh]; rfl)

theorem Box2.row {w : World} {b : Nat} {x y : Int} {t : TypeId} (h : w.heap[b]? = some (.cells (Value.agg #[.int .i64 x, .int .i64 y]).cells t (0, 0))) (hl : b < w.heap.size) : Box2 w b x y := by
  obtain ⟨k1, k2, k3, k4⟩ := two_cells h
  exact ⟨hl, k1, k2, k3, k4⟩

theorem min_if (a b : Int) : min a b = if b < a then b else a := by split <;> omega
theorem max_if (a b : Int) : max a b = if a < b then b else a := by split <;> omega

/-- Two results that lie in memory. -/
def res2 (w : World) : World := (w.alloc (.cells #[.int .i64 0, .int .i64 0] 24)).alloc (.cells #[.int .i64 0, .int .i64 0] 24)

end Go.Proofs.Ytbdlbemlgghgbaa
