import Derived.Test.YtjhaakollekjeaaDoorO9
import Derived.Test.YtjhaakollekjeaaDoorO11
import Derived.Test.YtjhaakollekjeaaDoorO1
import Derived.Test.YtjhaakollekjeaaDoorO10
namespace Go.Proofs.YtjhaakollekjeaaDoor
open Go Go.RowKit
set_option linter.unusedVariables false
set_option linter.unusedSimpArgs false

theorem ringB_parts {xs : List (Int × Int)} (h : ringB xs = true) : 1 ≤ xs.length ∧ xs.length ≤ 400 ∧ allOk xs = true := by
 simp [ringB, inB] at h
 exact ⟨by omega, by omega, h.2⟩

theorem edgesR_sum (xs : List (Int × Int)) : legSum (edgesR xs) = twiceTo xs xs.length := legSum_edges xs _

abbrev Ring_ := List (Int × Int)
def rg (rs : List Ring_) (k : Nat) : Ring_ := rs.getD k []
theorem at_r {rs : List Ring_} {k : Nat} (h : k < rs.length) : rs[k] = rg rs k := by simp [rg, List.getD, List.getElem?_eq_getElem h]

/-- A slice of rings that reads as the list rs. -/
def Rings (w : World) (A : Option Addr) (n : Nat) (rs : List Ring_) : Prop :=
 rs.length = n ∧ (0 < n → ∃ b o, A = some ⟨b, o, none⟩ ∧ b < w.heap.size ∧ ∀ k, k < n → ∃ Ak ck, w.cell? ⟨b, o + k, none⟩ = some (.slice Ak (rg rs k).length ck) ∧ Pts w Ak (rg rs k).length (rg rs k) ∧ ((rg rs k).length : Int) ≤ 9223372036854775807)
theorem Rings.over {w w' : World} {A : Option Addr} {n : Nat} {rs : List Ring_} (h : Rings w A n rs) (hb : Over w w') : Rings w' A n rs := by
 refine ⟨h.1, fun hn => ?_⟩
 obtain ⟨b, o, hA, hlt, hc⟩ := h.2 hn
 refine ⟨b, o, hA, Nat.lt_of_lt_of_le hlt hb.size, fun k hk => ?_⟩
 obtain ⟨Ak, ck, h1, h2, h3⟩ := hc k hk
 exact ⟨Ak, ck, ((ocell hb).1 b _ hlt).trans h1, h2.over hb, h3⟩
theorem Rings.at_ {w : World} {A : Option Addr} {n k : Nat} {rs : List Ring_} (h : Rings w A n rs) (hk : k < n) :
  ∃ b o Ak ck, A = some ⟨b, o, none⟩ ∧ b < w.heap.size ∧ w.cell? ⟨b, o + k, none⟩ = some (.slice Ak (rg rs k).length ck) ∧ Pts w Ak (rg rs k).length (rg rs k) ∧ ((rg rs k).length : Int) ≤ 9223372036854775807 := by
 obtain ⟨b, o, hA, hb, hc⟩ := h.2 (by omega)
 obtain ⟨Ak, ck, h1, h2, h3⟩ := hc k hk
 exact ⟨b, o, Ak, ck, hA, hb, h1, h2, h3⟩

/-- A slice of rings of the call's own: block g, whole; each ring a block of its own, from B on. -/
def OwnR (B : Nat) (w : World) (g n : Nat) (rs : List Ring_) : Prop :=
 B ≤ g ∧ rs.length = n ∧ Blk w g 66 n ∧ ∀ k, k < n → ∃ gk, B ≤ gk ∧ gk ≠ g ∧ w.cell? ⟨g, k, none⟩ = some (.slice (some ⟨gk, 0, none⟩) (rg rs k).length (rg rs k).length) ∧ Own w gk (rg rs k).length (rg rs k)
/-- The first k rings lie there. -/
def FillR (B : Nat) (w : World) (g k : Nat) (rs : List Ring_) : Prop :=
 ∀ j, j < k → ∃ gk, B ≤ gk ∧ gk ≠ g ∧ w.cell? ⟨g, j, none⟩ = some (.slice (some ⟨gk, 0, none⟩) (rg rs j).length (rg rs j).length) ∧ Own w gk (rg rs j).length (rg rs j)
theorem FillR.over {B : Nat} {w w' : World} {g k : Nat} {rs : List Ring_} (h : FillR B w g k rs) (hg : g < w.heap.size) (ho : Over w w') : FillR B w' g k rs := by
 intro j hj
 obtain ⟨gk, h1, h2, h3, h4⟩ := h j hj
 exact ⟨gk, h1, h2, ((ocell ho).1 g _ hg).trans h3, h4.over ho⟩
theorem FillR.step {B : Nat} {w : World} {g k m T gk : Nat} {rs : List Ring_} (h : FillR B w g k rs) (hb : Blk w g T m) (hk : k < m) (h1 : B ≤ gk) (h2 : gk ≠ g) (ho : Own w gk (rg rs k).length (rg rs k)) :
  FillR B (w.setCell ⟨g, k, none⟩ (.slice (some ⟨gk, 0, none⟩) (rg rs k).length (rg rs k).length)) g (k + 1) rs := by
 obtain ⟨u, hu⟩ := hb.cell hk
 intro j hj
 by_cases hjk : j = k
 ·subst hjk
  exact ⟨gk, h1, h2, World.cell?_setCell_same _ _ _ hu, ho.far (Ne.symm h2) _⟩
 ·obtain ⟨gj, e1, e2, e3, e4⟩ := h j (by omega)
  refine ⟨gj, e1, e2, ?_, e4.far (Ne.symm e2) _⟩
  rw [World.cell?_setCell_other _ _ _ _ (by simp <;> omega)]
  exact e3
theorem FillR.own {B : Nat} {w : World} {g n : Nat} {rs : List Ring_} (h : FillR B w g n rs) (hg : B ≤ g) (hb : Blk w g 66 n) (hn : rs.length = n) : OwnR B w g n rs := ⟨hg, hn, hb, h⟩
theorem OwnR.over {B : Nat} {w w' : World} {g n : Nat} {rs : List Ring_} (h : OwnR B w g n rs) (ho : Over w w') : OwnR B w' g n rs :=
 ⟨h.1, h.2.1, h.2.2.1.over ho, FillR.over h.2.2.2 h.2.2.1.lt ho⟩
theorem Blk.far {w : World} {g T m : Nat} (h : Blk w g T m) {p : Addr} (hp : p.block ≠ g) (u : Value) : Blk (w.setCell p u) g T m := by
 obtain ⟨cs, hs, hh⟩ := h
 exact ⟨cs, hs, (Below.heap_setCell w p u g (Ne.symm hp)).trans hh⟩
theorem OwnR.far {B : Nat} {w : World} {g n : Nat} {rs : List Ring_} (h : OwnR B w g n rs) {p : Addr} (hp : p.block < B) (u : Value) : OwnR B (w.setCell p u) g n rs := by
 have hg := h.1
 refine ⟨hg, h.2.1, h.2.2.1.far (by omega) u, fun k hk => ?_⟩
 obtain ⟨gk, h1, h2, h3, h4⟩ := h.2.2.2 k hk
 refine ⟨gk, h1, h2, ?_, h4.far (by omega) u⟩
 rw [World.cell?_setCell_other _ _ _ _ (fun e => by rw [e] at hp; simp at hp; omega)]
 exact h3
theorem OwnR.low {B B' : Nat} {w : World} {g n : Nat} {rs : List Ring_} (h : OwnR B w g n rs) (hB : B' ≤ B) : OwnR B' w g n rs := by
 refine ⟨by have := h.1; omega, h.2.1, h.2.2.1, fun k hk => ?_⟩
 obtain ⟨gk, h1, h2⟩ := h.2.2.2 k hk
 exact ⟨gk, by omega, h2⟩
theorem OwnR.rings {B : Nat} {w : World} {g n : Nat} {rs : List Ring_} (h : OwnR B w g n rs) (hm : ∀ k, k < n → ((rg rs k).length : Int) ≤ 1048576) : Rings w (some ⟨g, 0, none⟩) n rs := by
 refine ⟨h.2.1, fun _ => ⟨g, 0, rfl, h.2.2.1.lt, fun k hk => ?_⟩⟩
 obtain ⟨gk, h1, h2, h3, h4⟩ := h.2.2.2 k hk
 rw [Nat.zero_add]
 exact ⟨_, _, h3, h4.2, by have := hm k hk; omega⟩

/-- How many points the first k rings have. -/
def sumTo (rs : List Ring_) : Nat → Nat
 | 0 => 0
 | k + 1 => sumTo rs k + (rg rs k).length
theorem sumTo_mono (rs : List Ring_) {k m : Nat} (h : k ≤ m) : sumTo rs k ≤ sumTo rs m := by
 induction m with
 | zero => rw [Nat.le_zero.1 h]; omega
 | succ m ih =>
  rcases Nat.lt_or_ge k (m + 1) with h' | h'
  ·have := ih (by omega); simp only [sumTo]; omega
  ·rw [show k = m + 1 by omega]; omega
def total (rs : List Ring_) : Nat := rs.length + sumTo rs rs.length
theorem rg_le_total (rs : List Ring_) {k : Nat} (h : k < rs.length) : (rg rs k).length ≤ total rs := by
 have := sumTo_mono rs (show k + 1 ≤ rs.length by omega)
 simp only [sumTo] at this
 unfold total
 omega

/-- A region. -/
abbrev regV (A : Option Addr) (n c : Nat) : Value := .agg #[.slice A n c]

end Go.Proofs.YtjhaakollekjeaaDoor

namespace Go.Proofs.YtjhaakollekjeaaDoor
open Go Go.RowKit
set_option linter.unusedVariables false
set_option linter.unusedSimpArgs false

section
variable {P : Program} {ops : Array Oper} {Q : Exit → Act → World → Prop} {md : Region.Mode} {B : Base}

end
end Go.Proofs.YtjhaakollekjeaaDoor

namespace Go.Proofs.YtjhaakollekjeaaDoor
open Go Go.RowKit
set_option linter.unusedVariables false
set_option linter.unusedSimpArgs false

/-- Block b is a point variable that holds x and y. -/
def Box2 (w : World) (b : Nat) (x y : Int) : Prop :=
 b < w.heap.size ∧ w.cell? ⟨b, 0, none⟩ = some (.int .i64 x) ∧ w.cell? ⟨b, 1, none⟩ = some (.int .i64 y) ∧ w.frozen? ⟨b, 0, none⟩ = false ∧ w.frozen? ⟨b, 1, none⟩ = false
theorem Box2.over {w w' : World} {b : Nat} {x y : Int} (h : Box2 w b x y) (ho : Over w w') : Box2 w' b x y := by
 obtain ⟨hc, hf⟩ := ocell ho
 obtain ⟨h0, h1, h2, h3, h4⟩ := h
 exact ⟨Nat.lt_of_lt_of_le h0 ho.size, (hc _ _ h0).trans h1, (hc _ _ h0).trans h2, (hf _ _ h0).trans h3, (hf _ _ h0).trans h4⟩
theorem frozen_set (w : World) (p q : Addr) (u : Value) : (w.setCell p u).frozen? q = w.frozen? q := World.frozen?_setCell w p q u
theorem Box2.far {w : World} {b : Nat} {x y : Int} (h : Box2 w b x y) {p : Addr} (hp : p.block ≠ b) (u : Value) : Box2 (w.setCell p u) b x y := by
 obtain ⟨h0, h1, h2, h3, h4⟩ := h
 refine ⟨by simpa [World.setCell] using h0, ?_, ?_, (frozen_set ..).trans h3, (frozen_set ..).trans h4⟩
 ·rw [World.cell?_setCell_other _ _ _ _ (fun e => hp (by rw [e]))]; exact h1
 ·rw [World.cell?_setCell_other _ _ _ _ (fun e => hp (by rw [e]))]; exact h2
theorem Box2.set_ {w : World} {b : Nat} {x y : Int} (h : Box2 w b x y) (x' y' : Int) : Box2 ((w.setCell ⟨b, 0, none⟩ (.int .i64 x')).setCell ⟨b, 1, none⟩ (.int .i64 y')) b x' y' := by
 obtain ⟨h0, h1, h2, h3, h4⟩ := h
 have h2' : (w.setCell ⟨b, 0, none⟩ (.int .i64 x')).cell? ⟨b, 1, none⟩ = some (.int .i64 y) := by rw [World.cell?_setCell_other _ _ _ _ (by simp)]; exact h2
 refine ⟨by simpa [World.setCell] using h0, ?_, World.cell?_setCell_same _ _ _ h2', (frozen_set ..).trans ((frozen_set ..).trans h3), (frozen_set ..).trans ((frozen_set ..).trans h4)⟩
 rw [World.cell?_setCell_other _ _ _ _ (by simp)]
 exact World.cell?_setCell_same _ _ _ h1

theorem Box2.new (w : World) (x y : Int) (T g : Nat) (hg : g = w.heap.size) : Box2 (w.alloc (.cells #[.int .i64 x, .int .i64 y] T)) g x y := by
 subst hg
 have hh := heap_alloc_new w (.cells #[.int .i64 x, .int .i64 y] T)
 refine ⟨by simp, cell_new _ _ _ _, cell_new _ _ _ _, ?_, ?_⟩ <;> (unfold World.frozen?; rw [hh]; rfl)

theorem Box2.row {w : World} {b : Nat} {x y : Int} {t : TypeId} (h : w.heap[b]? = some (.cells (Value.agg #[.int .i64 x, .int .i64 y]).cells t (0, 0))) (hl : b < w.heap.size) : Box2 w b x y := by
 obtain ⟨k1, k2, k3, k4⟩ := two_cells h
 exact ⟨hl, k1, k2, k3, k4⟩

end Go.Proofs.YtjhaakollekjeaaDoor

namespace Go.Proofs.YtjhaakollekjeaaDoor
open Go Go.RowKit
set_option linter.unusedVariables false
set_option linter.unusedSimpArgs false

end Go.Proofs.YtjhaakollekjeaaDoor

namespace Go.Proofs.YtjhaakollekjeaaDoor
open Go Go.RowKit
set_option linter.unusedVariables false

theorem cell_congr {w w' : World} {b o : Nat} (h : w'.heap[b]? = w.heap[b]?) : w'.cell? ⟨b, o, none⟩ = w.cell? ⟨b, o, none⟩ := by
 simp only [World.cell?, h]
theorem Pts.agree {w w' : World} {A : Option Addr} {n : Nat} {xs : List (Int × Int)} (h : Pts w A n xs) (hz : w.heap.size ≤ w'.heap.size) (ha : ∀ p, A = some p → w'.heap[p.block]? = w.heap[p.block]?) : Pts w' A n xs := by
 refine ⟨h.1, fun hn => ?_⟩
 obtain ⟨b, o, rfl, hlt, hc⟩ := h.2 hn
 have hb := ha _ rfl
 refine ⟨b, o, rfl, by omega, fun k hk => ?_⟩
 rw [cell_congr hb, cell_congr hb]
 exact hc k hk
theorem OwnR.agree {B : Nat} {w w' : World} {g n : Nat} {rs : List Ring_} (h : OwnR B w g n rs) (hz : w.heap.size ≤ w'.heap.size) (ha : ∀ b, B ≤ b → b < w.heap.size → w'.heap[b]? = w.heap[b]?) : OwnR B w' g n rs := by
 have hB := h.1
 have hg := ha g h.1 h.2.2.1.lt
 refine ⟨h.1, h.2.1, ?_, fun k hk => ?_⟩
 ·obtain ⟨cs, hs, hh⟩ := h.2.2.1
  exact ⟨cs, hs, hg.trans hh⟩
 ·obtain ⟨gk, h1, h2, h3, h4⟩ := h.2.2.2 k hk
  have hgk := ha gk h1 h4.1.lt
  refine ⟨gk, h1, h2, (cell_congr hg).trans h3, ?_, h4.2.agree hz fun p hp => ?_⟩
  ·obtain ⟨cs, hs, hh⟩ := h4.1
   exact ⟨cs, hs, hgk.trans hh⟩
  ·injection hp with hp
   subst hp
   exact hgk
/-- Something that lies in the blocks from lo up to hi. -/
def Res.clo (lo hi : Nat) (P0 : World → Prop) : Res where
 F b := lo ≤ b ∧ b < hi
 P w := hi ≤ w.heap.size ∧ ∀ w', hi ≤ w'.heap.size → (∀ b, lo ≤ b → b < hi → w'.heap[b]? = w.heap[b]?) → P0 w'
 low w h b hb := Nat.lt_of_lt_of_le hb.2 h.1
 B := 0
 dep w w' h hz hb := ⟨Nat.le_trans h.1 hz, fun w'' h2 h3 => h.2 w'' h2 fun b h4 h5 => (h3 b h4 h5).trans (hb b (Nat.lt_of_lt_of_le h5 h.1) (.inr ⟨h4, h5⟩))⟩
section
variable {w : World} {w0 : Bs} {Rs : List Res}
end
end Go.Proofs.YtjhaakollekjeaaDoor
