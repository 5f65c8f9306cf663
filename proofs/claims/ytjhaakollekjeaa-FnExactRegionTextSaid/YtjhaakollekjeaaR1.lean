import Derived.Test.YtjhaakollekjeaaRows
import Derived.JoinedOf
import Derived.KernelRfl
import Derived.Test.YtjhaakollekjeaaProg
import Derived.WalkKit
import Derived.Lib.Hide
import Derived.ProofKit
import Derived.OpenShut
import Derived.ChangeOld
import Derived.Below
import Derived.Lib.SmallJoins
import Derived.Deep.Slices
namespace Go.Proofs.Ytjhaakollekjeaa
open Go
set_option linter.unusedVariables false
set_option linter.unusedSimpArgs false
set_option maxRecDepth 100000
theorem andB {a b : Bool} (h : a = true) (k : b = true) : (a && b) = true := by rw [h, k]; rfl
theorem once1 : laidOutB Try.checked.prog = true := by kernel_rfl
theorem once2 : mapsRowed Try.checked.prog = true := by kernel_rfl
theorem once6 : (Try.checked.prog.stops == []) = true := by kernel_rfl
theorem once8 : (Try.checked.prog.stopKnobs == []) = true := by kernel_rfl
theorem once22 : (Rows.fnExactRegionTextRow.plainKeys == Try.checked.prog.plainKeys) = true := by kernel_rfl
theorem once24 : Try.checked.prog.stopsHeard = true := by kernel_rfl
theorem once25 : Try.checked.prog.mayEnter = true := by kernel_rfl
theorem once26 : (Rows.fnExactRegionTextRow.lifted == Try.checked.prog.liftsFinal) = true := by kernel_rfl
theorem once27 : (Try.checked.prog.make == some Rows.fnExactRegionTextRow.make) = true := by kernel_rfl
end Go.Proofs.Ytjhaakollekjeaa

namespace Go.Proofs.Ytjhaakollekjeaa
open Go Go.RowKit
set_option linter.unusedVariables false
set_option linter.unusedSimpArgs false
theorem za {p : Prop} [Decidable p] : (decide p = true) = p := decide_eq_true_eq
theorem zb {p : Prop} [Decidable p] : decide p = false ↔ ¬p := decide_eq_false_iff_not
theorem zc {α : Type _} [BEq α] [LawfulBEq α] {a b : α} : (a == b) = true ↔ a = b := beq_iff_eq
theorem zd {α : Type _} [BEq α] [LawfulBEq α] {a b : α} : (a == b) = false ↔ a ≠ b := beq_eq_false_iff_ne
theorem ze {b : Bool} : (!b) = true ↔ b = false := by cases b <;> simp
theorem zf {b : Bool} : (!b) = false ↔ b = true := by cases b <;> simp
theorem zg {a b : Int} : ¬a < b ↔ b ≤ a := Int.not_lt
theorem zh {a b : Int} : ¬a ≤ b ↔ b < a := Int.not_le
theorem zi {a b : Nat} : ¬a < b ↔ b ≤ a := Nat.not_lt
theorem zj {a b : Nat} : ¬a ≤ b ↔ b < a := Nat.not_le
theorem ya {α : Type _} (s : List α) : [] ++ s = s := rfl
theorem yb {α : Type _} (a : α) (s t : List α) : (a :: s) ++ t = a :: (s ++ t) := rfl
theorem yc {α : Type _} (a b : α) (s : List α) : (a :: s).set 0 b = b :: s := rfl
theorem yd {α : Type _} (a b : α) (s : List α) (n : Nat) : (a :: s).set (n + 1) b = a :: s.set n b := rfl
theorem ye {α : Type _} (s : List α) : s.toArray.toList = s := rfl
theorem xa {α : Type _} (s : List α) (i : Nat) : s.toArray[i]? = s[i]? := List.getElem?_toArray
theorem xb {α : Type _} (a : α) (s : List α) : (a :: s)[0]? = some a := rfl
theorem xc {α : Type _} (a : α) (s : List α) (i : Nat) : (a :: s)[i + 1]? = s[i]? := rfl
theorem xd {α : Type _} (s : List α) (i : Nat) (a : α) : s.toArray.setIfInBounds i a = (s.set i a).toArray := List.setIfInBounds_toArray ..


/-- w' lies over w: nothing that was there has turned. -/
def Over (w w' : World) : Prop := Below w.heap.size w w'
theorem Over.out {w w' : World} (h : Over w w') : Below w.heap.size w w' := h
theorem Over.refl (w : World) : Over w w := Below.refl _ _
theorem Over.trans {w a b : World} (h : Over w a) (k : Over a b) : Over w b := Below.trans h (Below.mono k (Below.size h))
theorem Over.alloc (w : World) (o : Obj) : Over w (w.alloc o) := (Below.refl _ _).alloc (Nat.le_refl _) o
theorem Over.alloc_ {w a : World} (h : Over w a) (o : Obj) : Over w (a.alloc o) := h.trans (Over.alloc a o)
theorem Over.drew_ {w a : World} (h : Over w a) : Over w a.drew := Below.drew h
theorem Over.set_ {w a : World} (h : Over w a) {p : Addr} (hp : w.heap.size ≤ p.block) (u : Value) : Over w (a.setCell p u) := Below.setCell h hp u
theorem Over.size {w w' : World} (h : Over w w') : w.heap.size ≤ w'.heap.size := Below.size h
theorem ocell {W w1 : World} (hb : Over W w1) : (∀ b o, b < W.heap.size → w1.cell? ⟨b, o, none⟩ = W.cell? ⟨b, o, none⟩) ∧ (∀ b o, b < W.heap.size → w1.frozen? ⟨b, o, none⟩ = W.frozen? ⟨b, o, none⟩) :=
 ⟨fun b o h => Below.cell (p := ⟨b, o, none⟩) hb h, fun b o h => Below.frozen (p := ⟨b, o, none⟩) hb h⟩

/-- The value of a point. -/
abbrev ptV (x y : Int) : Value := .agg #[.int .i64 x, .int .i64 y]

/-- The coordinates of the k-th point. -/
def px (xs : List (Int × Int)) (k : Nat) : Int := (xs.getD k (0, 0)).1
def py (xs : List (Int × Int)) (k : Nat) : Int := (xs.getD k (0, 0)).2
theorem at_p {xs : List (Int × Int)} {k : Nat} (h : k < xs.length) : xs[k] = (px xs k, py xs k) := by
 simp [px, py, List.getD, List.getElem?_eq_getElem h]

/-- The slice with address A and length n reads as the points xs. -/
def Pts (w : World) (A : Option Addr) (n : Nat) (xs : List (Int × Int)) : Prop :=
 xs.length = n ∧ (0 < n → ∃ b o, A = some ⟨b, o, none⟩ ∧ b < w.heap.size ∧ ∀ k, k < n → w.cell? ⟨b, o + k * 2, none⟩ = some (.int .i64 (px xs k)) ∧ w.cell? ⟨b, o + k * 2 + 1, none⟩ = some (.int .i64 (py xs k)))

theorem Pts.over {w w' : World} {A : Option Addr} {n : Nat} {xs : List (Int × Int)} (h : Pts w A n xs) (hb : Over w w') : Pts w' A n xs := by
 refine ⟨h.1, fun hn => ?_⟩
 obtain ⟨b, o, hA, hlt, hc⟩ := h.2 hn
 exact ⟨b, o, hA, Nat.lt_of_lt_of_le hlt hb.size, fun k hk => ⟨((ocell hb).1 b _ hlt).trans (hc k hk).1, ((ocell hb).1 b _ hlt).trans (hc k hk).2⟩⟩

theorem cell_new (w : World) (cs : Array Value) (T : TypeId) (i : Nat) : (w.alloc (.cells cs T)).cell? ⟨w.heap.size, i, none⟩ = cs[i]? :=
 cell_of_row _ _ i cs T (0, 0) (heap_alloc_new w _)

end Go.Proofs.Ytjhaakollekjeaa

namespace Go.Proofs.Ytjhaakollekjeaa
open Go Go.ChangeShapes Go.WideShapes Go.ChangeAt Go.RowKit Go.Joins Go.Deep
set_option linter.unusedVariables false
set_option linter.unusedSimpArgs false

theorem ownK : ownKnob Try.prog.godebug = none := by kernel_rfl
theorem laidOutB_ : laidOutB Try.prog = true := by kernel_rfl

section
variable {H : Type} {enc : TypeId × Value → H} {w : World} {base : Nat} {spare : Nat → Bool} {held : Bool}
set_option maxRecDepth 100000 in
/-- A slice of the laws' points that came in. -/
theorem open_pts {fuel : Nat} {cs : List Value} {x : DataW H × List MemPlace} (h : DataW.trod enc Try.prog w base spare held fuel 51 cs = some x) :
  ∃ (A : Option Addr) (n c : Nat) (xs : List (Int × Int)), cs = [.slice A n c] ∧ Pts w A n xs ∧ (n : Int) ≤ 9223372036854775807 := by
 rcases open_slice Try.underlying51 h with ⟨rfl, _⟩ | ⟨a, len, cap, m, n, D, Pl, rfl, _, hl, hm, hmm, _, hi⟩
 ·exact ⟨none, 0, 0, [], rfl, ⟨rfl, fun h => absurd h (by omega)⟩, by omega⟩
 have hC : Try.prog.cellsOf 109 = 2 := by kernel_rfl
 have h1 : Try.prog.cellsOf 2 = 1 := by kernel_rfl
 rw [hC] at hi
 have key : ∀ i, i < len → ∃ p : Int × Int, w.cell? (a.add (i * 2)) = some (.int .i64 p.1) ∧ w.cell? (a.add (i * 2 + 1)) = some (.int .i64 p.2) := by
  intro i hlt
  have hlm : len ≤ m := by rw [hmm]; split <;> omega
  obtain ⟨cs', hc, ht⟩ := hi i (by omega)
  obtain ⟨_, hcl, hat⟩ := World.cells?_some hc
  obtain ⟨y0, y1, n', _, _, t0, t1⟩ := trod_struct2 Try.underlying109 ht
  rw [h1] at t0 t1
  match cs', hcl with
  | [c0, c1], _ =>
   obtain ⟨x, e0, _, _⟩ := DataW.trod_int Try.underlying2 t0
   obtain ⟨y, e1, _, _⟩ := DataW.trod_int Try.underlying2 t1
   simp at e0 e1
   subst e0 e1
   refine ⟨(x, y), ?_, ?_⟩
   ·have := hat 0 (by omega)
    rw [add_add] at this
    simpa using this
   ·have := hat 1 (by omega)
    rw [add_add] at this
    simpa using this
 obtain ⟨f, hf⟩ := choose_lt key
 refine ⟨some a, len, cap, (List.range len).map f, rfl, ⟨by simp, fun hn => ?_⟩, by unfold maxLen at hm; omega⟩
 obtain ⟨b, o, sp⟩ := a
 have hsp : sp = none := by
  have := World.cell?_spot (hf 0 hn).1
  simpa [Addr.add] using this
 subst hsp
 have hadd : ∀ j, (⟨b, o, none⟩ : Addr).add j = ⟨b, o + j, none⟩ := fun j => by unfold Addr.add; split <;> simp_all
 have hlt := World.block_lt_of_cell? w _ (hf 0 hn).1
 rw [hadd] at hlt
 refine ⟨b, o, rfl, hlt, fun k hk => ?_⟩
 have hk2 := hf k hk
 rw [hadd, hadd] at hk2
 have hx : ∀ k, k < len → ((List.range len).map f).getD k (0, 0) = f k := by
  intro k hk
  simp [List.getD, hk]
 unfold px py
 rw [hx k hk]
 exact hk2

end
end Go.Proofs.Ytjhaakollekjeaa
