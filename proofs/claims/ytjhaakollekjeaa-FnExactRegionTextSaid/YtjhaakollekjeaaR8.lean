import Derived.Test.YtjhaakollekjeaaR1
import Derived.Test.YtjhaakollekjeaaR7
namespace Go.Proofs.Ytjhaakollekjeaa
open Go Go.ChangeShapes Go.WideShapes Go.ChangeAt Go.RowKit Go.Joins Go.Deep
set_option linter.unusedVariables false
set_option linter.unusedSimpArgs false

section
variable {H : Type} {enc : TypeId × Value → H} {w : World} {base : Nat} {spare : Nat → Bool} {held : Bool}
set_option maxRecDepth 100000 in
/-- A slice of the laws' rings that came in. -/
theorem open_rings {fuel : Nat} {cs : List Value} {x : DataW H × List MemPlace} (h : DataW.trod enc Try.prog w base spare held fuel 22 cs = some x) :
  ∃ (A : Option Addr) (n c : Nat) (rs : List Ring_), cs = [.slice A n c] ∧ Rings w A n rs ∧ (n : Int) ≤ 9223372036854775807 := by
 rcases open_slice Try.underlying22 h with ⟨rfl, _⟩ | ⟨a, len, cap, m, n, D, Pl, rfl, _, hl, hm, hmm, _, hi⟩
 ·exact ⟨none, 0, 0, [], rfl, ⟨rfl, fun h => absurd h (by omega)⟩, by omega⟩
 have hC : Try.prog.cellsOf 116 = 1 := by kernel_rfl
 have hC2 : Try.prog.cellsOf 51 = 1 := by kernel_rfl
 rw [hC] at hi
 have key : ∀ i, i < len → ∃ p : (Option Addr × Nat) × Ring_, w.cell? (a.add (i * 1)) = some (.slice p.1.1 p.2.length p.1.2) ∧ Pts w p.1.1 p.2.length p.2 ∧ (p.2.length : Int) ≤ 9223372036854775807 := by
  intro i hlt
  have hlm : len ≤ m := by rw [hmm]; split <;> omega
  obtain ⟨cs', hc, ht⟩ := hi i (by omega)
  obtain ⟨_, hcl, hat⟩ := World.cells?_some hc
  obtain ⟨xs, n', _, _, _, hlen, hg⟩ := DataW.trod_struct Try.underlying116 ht
  have h0 : DataW.trod enc Try.prog w base spare held n' 51 ((cs'.drop 0).take (Try.prog.cellsOf 51)) = xs[0]? := hg 0 _ rfl
  match cs', hcl with
  | [c0], _ =>
   match xs, hlen with
   | [y0], _ =>
    obtain ⟨A, n, c, xs, e, hp, hm⟩ := open_pts (cs := [c0]) (x := y0) (by rw [hC2] at h0; simpa using h0)
    injection e with e
    subst e
    have hn := hp.1
    subst hn
    refine ⟨((A, c), xs), ?_, hp, hm⟩
    have := hat 0 (by omega)
    rw [add_add] at this
    simpa using this
 obtain ⟨f, hf⟩ := choose_lt key
 refine ⟨some a, len, cap, (List.range len).map (fun i => (f i).2), rfl, ⟨by simp, fun hn => ?_⟩, by unfold maxLen at hm; omega⟩
 obtain ⟨b, o, sp⟩ := a
 have hsp : sp = none := by
  have := World.cell?_spot (hf 0 hn).1
  simpa [Addr.add] using this
 subst hsp
 have hadd : ∀ j, (⟨b, o, none⟩ : Addr).add j = ⟨b, o + j, none⟩ := fun j => by unfold Addr.add; split <;> simp_all
 have hlt := World.block_lt_of_cell? w _ (hf 0 hn).1
 rw [hadd] at hlt
 refine ⟨b, o, rfl, hlt, fun k hk => ?_⟩
 have hk2 := hf k hk
 rw [hadd, Nat.mul_one] at hk2
 have hx : rg ((List.range len).map (fun i => (f i).2)) k = (f k).2 := by
  simp [rg, List.getD, hk]
 rw [hx]
 exact ⟨_, _, hk2⟩

set_option maxRecDepth 100000 in
/-- A region of the laws' that came in. -/
theorem open_region {r : Reach} {b0 : Nat} {v : Value} {d : DataW H} {p : List MemPlace} (hv : Value.okWide Try.prog w r b0 24 v) (h : DataW.Trod enc Try.prog w base spare held 24 v d p) :
  ∃ (A : Option Addr) (n c : Nat) (rs : List Ring_), v = .agg #[.slice A n c] ∧ Rings w A n rs ∧ (n : Int) ≤ 9223372036854775807 := by
 have hC : Try.prog.cellsOf 24 = 1 := by kernel_rfl
 have hC2 : Try.prog.cellsOf 22 = 1 := by kernel_rfl
 obtain ⟨cs, rfl, hsz⟩ := okWide_struct Try.underlying24 hv
 obtain ⟨l⟩ := cs
 obtain ⟨fuel, hf⟩ := h
 obtain ⟨xs, n, _, _, _, hlen, hg⟩ := DataW.trod_struct Try.underlying24 hf
 have h0 : DataW.trod enc Try.prog w base spare held n 22 (((Value.agg ⟨l⟩).cells.toList.drop 0).take (Try.prog.cellsOf 22)) = xs[0]? := hg 0 _ rfl
 rw [hC2] at h0
 match l, hsz.trans hC with
 | [c0], _ =>
  match xs, hlen with
  | [y0], _ =>
   obtain ⟨A, n, c, xs, e, hp, hm⟩ := open_rings (cs := [c0]) (x := y0) (by simpa [Value.cells] using h0)
   injection e with e
   subst e
   exact ⟨A, n, c, xs, rfl, hp, hm⟩
end
end Go.Proofs.Ytjhaakollekjeaa
