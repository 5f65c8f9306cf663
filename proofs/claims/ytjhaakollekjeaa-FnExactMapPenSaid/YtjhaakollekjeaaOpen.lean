/- The arguments of the laws, opened. -/
import Derived.Test.YtjhaakollekjeaaRows
import Derived.Test.YtjhaakollekjeaaMem
import Derived.ProofKit
import Derived.OpenShut
import Derived.ChangeOld
import Derived.Below
import Derived.Lib.SmallJoins
import Derived.Deep.Slices
namespace Go.Proofs.Ytjhaakollekjeaa
open Go Go.ChangeShapes Go.WideShapes Go.ChangeAt Go.RowKit Go.Joins Go.Deep
set_option linter.unusedVariables false
set_option linter.unusedSimpArgs false

theorem ownK : ownKnob Try.prog.godebug = none := by kernel_rfl
theorem laidOutB_ : laidOutB Try.prog = true := by kernel_rfl

section
variable {H : Type} {enc : TypeId × Value → H} {w : World} {base : Nat} {spare : Nat → Bool} {held : Bool}
set_option maxRecDepth 100000 in
/-- A slice of the laws' points that came in. -/
theorem open_pts {fuel : Nat} {cs : List Value} {x : DataW H × List MemPlace} (h : DataW.trod enc Try.prog w base spare held fuel 51 cs = some x) :
  ∃ (A : Option Addr) (n c : Nat) (xs : List (Int × Int)), cs = [.slice A n c] ∧ Pts w A n xs ∧ (n : Int) ≤ 9223372036854775807 := by
 rcases open_slice Try.underlying51 h with ⟨rfl, _⟩ | ⟨a, len, cap, m, n, D, Pl, rfl, _, hl, hm, hmm, _, hi⟩
 ·exact ⟨none, 0, 0, [], rfl, ⟨rfl, fun h => absurd h (by omega)⟩, by omega⟩
 have hC : Try.prog.cellsOf 109 = 2 := by kernel_rfl
 have h1 : Try.prog.cellsOf 2 = 1 := by kernel_rfl
 rw [hC] at hi
 have key : ∀ i, i < len → ∃ p : Int × Int, w.cell? (a.add (i * 2)) = some (.int .i64 p.1) ∧ w.cell? (a.add (i * 2 + 1)) = some (.int .i64 p.2) := by
  intro i hlt
  have hlm : len ≤ m := by rw [hmm]; split <;> omega
  obtain ⟨cs', hc, ht⟩ := hi i (by omega)
  obtain ⟨_, hcl, hat⟩ := World.cells?_some hc
  obtain ⟨y0, y1, n', _, _, t0, t1⟩ := trod_struct2 Try.underlying109 ht
  rw [h1] at t0 t1
  match cs', hcl with
  | [c0, c1], _ =>
   obtain ⟨x, e0, _, _⟩ := DataW.trod_int Try.underlying2 t0
   obtain ⟨y, e1, _, _⟩ := DataW.trod_int Try.underlying2 t1
   simp at e0 e1
   subst e0 e1
   refine ⟨(x, y), ?_, ?_⟩
   ·have := hat 0 (by omega)
    rw [add_add] at this
    simpa using this
   ·have := hat 1 (by omega)
    rw [add_add] at this
    simpa using this
 obtain ⟨f, hf⟩ := choose_lt key
 refine ⟨some a, len, cap, (List.range len).map f, rfl, ⟨by simp, fun hn => ?_⟩, by unfold maxLen at hm; omega⟩
 obtain ⟨b, o, sp⟩ := a
 have hsp : sp = none := by
  have := World.cell?_spot (hf 0 hn).1
  simpa [Addr.add] using this
 subst hsp
 have hadd : ∀ j, (⟨b, o, none⟩ : Addr).add j = ⟨b, o + j, none⟩ := fun j => by unfold Addr.add; split <;> simp_all
 have hlt := World.block_lt_of_cell? w _ (hf 0 hn).1
 rw [hadd] at hlt
 refine ⟨b, o, rfl, hlt, fun k hk => ?_⟩
 have hk2 := hf k hk
 rw [hadd, hadd] at hk2
 have hx : ∀ k, k < len → ((List.range len).map f).getD k (0, 0) = f k := by
  intro k hk
  simp [List.getD, hk]
 unfold px py
 rw [hx k hk]
 exact hk2

set_option maxRecDepth 100000 in
theorem open_ptsV {r : Reach} {b0 : Nat} {v : Value} {d : DataW H} {p : List MemPlace} (hv : Value.okWide Try.prog w r b0 51 v) (h : DataW.Trod enc Try.prog w base spare held 51 v d p) :
  ∃ (A : Option Addr) (n c : Nat) (xs : List (Int × Int)), v = .slice A n c ∧ Pts w A n xs ∧ (n : Int) ≤ 9223372036854775807 := by
 obtain ⟨A, n, c, rfl⟩ := okWide_slice Try.underlying51 hv
 obtain ⟨fuel, hf⟩ := h
 obtain ⟨A', n', c', xs, e, hp, hm⟩ := open_pts hf
 simp [Value.cells] at e
 obtain ⟨rfl, rfl, rfl⟩ := e
 exact ⟨_, _, _, xs, rfl, hp, hm⟩
end
end Go.Proofs.Ytjhaakollekjeaa
