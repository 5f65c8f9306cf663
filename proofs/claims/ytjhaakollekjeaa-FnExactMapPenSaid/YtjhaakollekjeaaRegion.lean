/- Rings that are valid, twice the area of rings, regions. -/
import Derived.Test.YtjhaakollekjeaaRing
import Derived.Test.YtjhaakollekjeaaLegs
namespace Go.Proofs.Ytjhaakollekjeaa
open Go Go.RowKit
set_option linter.unusedVariables false
set_option linter.unusedSimpArgs false

abbrev Ring_ := List (Int × Int)
def rg (rs : List Ring_) (k : Nat) : Ring_ := rs.getD k []
theorem at_r {rs : List Ring_} {k : Nat} (h : k < rs.length) : rs[k] = rg rs k := by simp [rg, List.getD, List.getElem?_eq_getElem h]

/-- A slice of rings that reads as the list rs. -/
def Rings (w : World) (A : Option Addr) (n : Nat) (rs : List Ring_) : Prop :=
 rs.length = n ∧ (0 < n → ∃ b o, A = some ⟨b, o, none⟩ ∧ b < w.heap.size ∧ ∀ k, k < n → ∃ Ak ck, w.cell? ⟨b, o + k, none⟩ = some (.slice Ak (rg rs k).length ck) ∧ Pts w Ak (rg rs k).length (rg rs k) ∧ ((rg rs k).length : Int) ≤ 9223372036854775807)
theorem Rings.over {w w' : World} {A : Option Addr} {n : Nat} {rs : List Ring_} (h : Rings w A n rs) (hb : Over w w') : Rings w' A n rs := by
 refine ⟨h.1, fun hn => ?_⟩
 obtain ⟨b, o, hA, hlt, hc⟩ := h.2 hn
 refine ⟨b, o, hA, Nat.lt_of_lt_of_le hlt hb.size, fun k hk => ?_⟩
 obtain ⟨Ak, ck, h1, h2, h3⟩ := hc k hk
 exact ⟨Ak, ck, ((ocell hb).1 b _ hlt).trans h1, h2.over hb, h3⟩
theorem Rings.at_ {w : World} {A : Option Addr} {n k : Nat} {rs : List Ring_} (h : Rings w A n rs) (hk : k < n) :
  ∃ b o Ak ck, A = some ⟨b, o, none⟩ ∧ b < w.heap.size ∧ w.cell? ⟨b, o + k, none⟩ = some (.slice Ak (rg rs k).length ck) ∧ Pts w Ak (rg rs k).length (rg rs k) ∧ ((rg rs k).length : Int) ≤ 9223372036854775807 := by
 obtain ⟨b, o, hA, hb, hc⟩ := h.2 (by omega)
 obtain ⟨Ak, ck, h1, h2, h3⟩ := hc k hk
 exact ⟨b, o, Ak, ck, hA, hb, h1, h2, h3⟩

/-- A slice of rings of the call's own: block g, whole; each ring a block of its own, from B on. -/
def OwnR (B : Nat) (w : World) (g n : Nat) (rs : List Ring_) : Prop :=
 B ≤ g ∧ rs.length = n ∧ Blk w g 75 n ∧ ∀ k, k < n → ∃ gk, B ≤ gk ∧ gk ≠ g ∧ w.cell? ⟨g, k, none⟩ = some (.slice (some ⟨gk, 0, none⟩) (rg rs k).length (rg rs k).length) ∧ Own w gk (rg rs k).length (rg rs k)
/-- The first k rings lie there. -/
def FillR (B : Nat) (w : World) (g k : Nat) (rs : List Ring_) : Prop :=
 ∀ j, j < k → ∃ gk, B ≤ gk ∧ gk ≠ g ∧ w.cell? ⟨g, j, none⟩ = some (.slice (some ⟨gk, 0, none⟩) (rg rs j).length (rg rs j).length) ∧ Own w gk (rg rs j).length (rg rs j)
theorem FillR.over {B : Nat} {w w' : World} {g k : Nat} {rs : List Ring_} (h : FillR B w g k rs) (hg : g < w.heap.size) (ho : Over w w') : FillR B w' g k rs := by
 intro j hj
 obtain ⟨gk, h1, h2, h3, h4⟩ := h j hj
 exact ⟨gk, h1, h2, ((ocell ho).1 g _ hg).trans h3, h4.over ho⟩
theorem FillR.step {B : Nat} {w : World} {g k m T gk : Nat} {rs : List Ring_} (h : FillR B w g k rs) (hb : Blk w g T m) (hk : k < m) (h1 : B ≤ gk) (h2 : gk ≠ g) (ho : Own w gk (rg rs k).length (rg rs k)) :
  FillR B (w.setCell ⟨g, k, none⟩ (.slice (some ⟨gk, 0, none⟩) (rg rs k).length (rg rs k).length)) g (k + 1) rs := by
 obtain ⟨u, hu⟩ := hb.cell hk
 intro j hj
 by_cases hjk : j = k
 ·subst hjk
  exact ⟨gk, h1, h2, World.cell?_setCell_same _ _ _ hu, ho.far (Ne.symm h2) _⟩
 ·obtain ⟨gj, e1, e2, e3, e4⟩ := h j (by omega)
  refine ⟨gj, e1, e2, ?_, e4.far (Ne.symm e2) _⟩
  rw [World.cell?_setCell_other _ _ _ _ (by simp <;> omega)]
  exact e3
theorem FillR.own {B : Nat} {w : World} {g n : Nat} {rs : List Ring_} (h : FillR B w g n rs) (hg : B ≤ g) (hb : Blk w g 75 n) (hn : rs.length = n) : OwnR B w g n rs := ⟨hg, hn, hb, h⟩
theorem OwnR.over {B : Nat} {w w' : World} {g n : Nat} {rs : List Ring_} (h : OwnR B w g n rs) (ho : Over w w') : OwnR B w' g n rs :=
 ⟨h.1, h.2.1, h.2.2.1.over ho, FillR.over h.2.2.2 h.2.2.1.lt ho⟩
theorem Blk.far {w : World} {g T m : Nat} (h : Blk w g T m) {p : Addr} (hp : p.block ≠ g) (u : Value) : Blk (w.setCell p u) g T m := by
 obtain ⟨cs, hs, hh⟩ := h
 exact ⟨cs, hs, (Below.heap_setCell w p u g (Ne.symm hp)).trans hh⟩
theorem OwnR.far {B : Nat} {w : World} {g n : Nat} {rs : List Ring_} (h : OwnR B w g n rs) {p : Addr} (hp : p.block < B) (u : Value) : OwnR B (w.setCell p u) g n rs := by
 have hg := h.1
 refine ⟨hg, h.2.1, h.2.2.1.far (by omega) u, fun k hk => ?_⟩
 obtain ⟨gk, h1, h2, h3, h4⟩ := h.2.2.2 k hk
 refine ⟨gk, h1, h2, ?_, h4.far (by omega) u⟩
 rw [World.cell?_setCell_other _ _ _ _ (fun e => by rw [e] at hp; simp at hp; omega)]
 exact h3
theorem OwnR.low {B B' : Nat} {w : World} {g n : Nat} {rs : List Ring_} (h : OwnR B w g n rs) (hB : B' ≤ B) : OwnR B' w g n rs := by
 refine ⟨by have := h.1; omega, h.2.1, h.2.2.1, fun k hk => ?_⟩
 obtain ⟨gk, h1, h2⟩ := h.2.2.2 k hk
 exact ⟨gk, by omega, h2⟩
end Go.Proofs.Ytjhaakollekjeaa
