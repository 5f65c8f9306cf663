/- The arguments of the laws, opened: bytes. -/
import Derived.Test.YtoghpiinegfddaaOpen
import Derived.Test.YtoghpiinegfddaaSrc
import Derived.ChangeSlices
namespace Go.Proofs.Ytoghpiinegfddaa
open Go Go.ChangeShapes Go.WideShapes Go.ChangeAt Go.RowKit Go.Joins Go.Deep
set_option linter.unusedVariables false
set_option linter.unusedSimpArgs false

section
variable {H : Type} {enc : TypeId × Value → H} {w : World} {base : Nat} {spare : Nat → Bool} {held : Bool}
set_option maxRecDepth 100000 in
theorem open_bytes {r : Reach} {b0 : Nat} {v : Value} {d : DataW H} {p : List MemPlace} (hv : Value.okWide Try.prog w r b0 22 v) (h : DataW.Trod enc Try.prog w base spare held 22 v d p) :
    ∃ (A : Option Addr) (n c : Nat) (zs : List Int), v = .slice A n c ∧ Byts w A n zs ∧ (n : Int) ≤ 9223372036854775807 := by
  have hC : Try.prog.cellsOf 5 = 1 := by kernel_rfl
  obtain ⟨A, n, c, rfl⟩ := okWide_slice Try.underlying22 hv
  obtain ⟨fuel, hf⟩ := h
  rcases open_ints Try.underlying22 Try.underlying5 hC hf with ⟨e, _⟩ | ⟨a, len, cap, zs, e, _, hl, hm, hz, _, hc, hw⟩
  · simp [Value.cells] at e
    obtain ⟨rfl, rfl, rfl⟩ := e
    exact ⟨none, 0, 0, [], rfl, ⟨rfl, fun z hz => absurd hz (by simp), fun h => absurd h (by omega)⟩, by omega⟩
  · simp [Value.cells] at e
    obtain ⟨rfl, rfl, rfl⟩ := e
    have hlz : n ≤ zs.length := by rw [hz]; split <;> omega
    have hwf : ∀ z ∈ zs, 0 ≤ z ∧ z ≤ 255 := fun z hz => by
      have := hw z hz
      simp [Lit.wf, IntKind.min, IntKind.max, IntKind.bits, IntKind.signed] at this
      omega
    refine ⟨some a, n, c, zs.take n, rfl, ⟨by rw [List.length_take]; omega, fun z hz => hwf z (List.mem_of_mem_take hz), fun h0 => ?_⟩, by unfold maxLen at hm; omega⟩
    obtain ⟨b, o, sp⟩ := a
    have hsp : sp = none := by
      have := World.cell?_spot (hc 0 (by omega))
      simpa [Addr.add] using this
    subst hsp
    have hadd : ∀ j, (⟨b, o, none⟩ : Addr).add j = ⟨b, o + j, none⟩ := fun j => by unfold Addr.add; split <;> simp_all
    have hlt := World.block_lt_of_cell? w _ (hc 0 (by omega))
    rw [hadd] at hlt
    refine ⟨b, o, rfl, hlt, fun k hk => ?_⟩
    have h1 := hc k (by omega)
    rw [hadd] at h1
    rw [h1]
    have : nth (zs.take n) k = zs.getD k 0 := by simp [nth, List.getD, List.getElem?_take, hk]
    rw [this]
end
end Go.Proofs.Ytoghpiinegfddaa
