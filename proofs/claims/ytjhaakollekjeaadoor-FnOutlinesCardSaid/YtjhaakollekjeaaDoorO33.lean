import Derived.Test.YtjhaakollekjeaaDoorO32
import Derived.Test.YtjhaakollekjeaaDoorO31
import Derived.Test.YtjhaakollekjeaaDoorO15
namespace Go.Proofs.YtjhaakollekjeaaDoor
open Go Go.RowKit
set_option linter.unusedVariables false
set_option linter.unusedSimpArgs false

/-! ### Sizes -/
/-! ### Copies -/
/-- A loop copied. -/
structure Pk where
 blk : Nat
 l : List Kn
def Pk.val (e : Pk) : Value := .slice (some ⟨e.blk, 0, none⟩) e.l.length e.l.length
def Pk.res (e : Pk) : Res := .cel e.blk 54 (e.l.flatMap knCells)
theorem takeL_step {ls : List (List Kn)} {k : Nat} (hk : k < ls.length) : ls.take (k + 1) = ls.take k ++ [lp ls k] := by
 rw [List.take_succ_eq_append_getElem hk, lp_at hk]
section
variable {w0 : Bs} {Rs : List Res} {k n : Nat} {x : Nat × List Pk} {ls : List (List Kn)}
end

/-! ### Comparing -/
/-! ### Marks -/
theorem manyK_ap {L : List Res} {w : World} (h : (Res.many L).P w) {i j : Nat} (hi : i < L.length) (hj : j < L.length) (hne : i ≠ j) (b : Nat) (h1 : (L[i]).F b) : ¬ (L[j]).F b := by
 have hp := List.pairwise_iff_getElem.1 h.2
 rcases Nat.lt_or_ge i j with hlt | hge
 ·exact hp i j hi hj hlt b h1
 ·exact fun h2 => hp j i hj hi (by omega) b h2 h1
theorem manyK_set {L : List Res} {k : Nat} {r r' : Res} {w w' : World} (h : (Res.many L).P w) (hk : L[k]? = some r) (hw : Wrs r.F w w') (hP : r'.P w') (hF : ∀ b, r'.F b → r.F b) (hB : r'.B = 0) : (Res.many (L.set k r')).P w' := by
 obtain ⟨hkl, hke⟩ := List.getElem?_eq_some_iff.1 hk
 have old : ∀ i (hi : i < L.length), i ≠ k → (L[i]).P w' ∧ (L[i]).B = 0 := fun i hi hne => by
  obtain ⟨h1, h2⟩ := h.1 _ (List.getElem_mem hi)
  refine ⟨(L[i]).dep w w' h1 hw.size fun b hb hor => hw.block b hb fun hr => ?_, h2⟩
  have h3 : (L[i]).F b := hor.elim (fun h4 => by rw [h2] at h4; omega) id
  exact manyK_ap h hi hkl hne b h3 (hke ▸ hr)
 refine ⟨fun s hs => ?_, List.pairwise_iff_getElem.2 fun i j hi hj hij b h1 h2 => ?_⟩
 ·obtain ⟨i, hi, rfl⟩ := List.getElem_of_mem hs
  rw [List.getElem_set]
  split
  ·exact ⟨hP, hB⟩
  ·exact old i (by simpa using hi) (by omega)
 ·simp only [List.length_set] at hi hj
  have e : ∀ q (hq : q < L.length) (hq2 : q < (L.set k r').length), ((L.set k r')[q]).F b → (L[q]).F b := fun q hq hq2 hb => by
   rw [List.getElem_set] at hb
   split at hb
   ·rename_i e; subst e; rw [hke]; exact hF b hb
   ·exact hb
  exact manyK_ap h hi hj (by omega) b (e i hi _ h1) (e j hj _ h2)
/-- A block of cells, of whose cells only the number is told. -/
def Res.any (b T m : Nat) : Res where
 F := (· = b)
 P := fun w => ∃ cs : List Value, cs.length = m ∧ w.heap[b]? = some (.cells cs.toArray T (0, 0))
 low := fun _ ⟨_, _, h⟩ _ hk => hk ▸ lt_of_some h
 B := 0
 dep := fun _ _ ⟨cs, e, h⟩ _ hb => ⟨cs, e, (hb b (lt_of_some h) (.inr rfl)).trans h⟩
end Go.Proofs.YtjhaakollekjeaaDoor
