/- The points of all rings; the bounds of a region: both sides. -/
import Derived.Test.YtjhaakollekjeaaReg3
namespace Go.Proofs.Ytjhaakollekjeaa
open Go Go.RowKit
set_option linter.unusedVariables false
set_option linter.unusedSimpArgs false

theorem ptCells_len (xs : List (Int × Int)) : (xs.flatMap ptCells).length = xs.length * 2 := by
 induction xs with
 | nil => rfl
 | cons a r ih => rw [List.flatMap_cons, List.length_append, ih]; simp [ptCells]; omega
theorem ptCells_one (xs : List (Int × Int)) : ∀ u ∈ xs.flatMap ptCells, u.oneCell' = true := by
 intro u hu
 obtain ⟨p, _, hp⟩ := List.mem_flatMap.1 hu
 simp [ptCells] at hp
 rcases hp with rfl | rfl <;> rfl
theorem ptFlat : ∀ (xs : List (Int × Int)) (k j : Nat) (hk : k < xs.length), j < 2 → (xs.flatMap ptCells)[k * 2 + j]? = (ptCells xs[k])[j]?
 | [], _, _, h, _ => absurd h (by simp)
 | a :: r, 0, j, _, hj => by
  rw [List.flatMap_cons, Nat.zero_mul, Nat.zero_add, List.getElem?_append_left (by simpa [ptCells] using hj)]
  rfl
 | a :: r, k + 1, j, h, hj => by
  have hl : (ptCells a).length = 2 := rfl
  rw [List.flatMap_cons, List.getElem?_append_right (by rw [hl]; omega), hl]
  have := ptFlat r k j (by simpa using h) hj
  rw [show (k + 1) * 2 + j - 2 = k * 2 + j by omega, this]
  rfl
/-- Points that came in, as what is appended. -/
theorem srcPts {w : World} {A : Option Addr} {n c : Nat} {xs : List (Int × Int)} (h : Pts w A n xs) (hn : 0 < n) : Src 2 (.slice A n c) n (xs.flatMap ptCells) w := by
 refine ⟨by rw [ptCells_len, h.1], .inr ?_⟩
 obtain ⟨b, o, rfl, hb, hc⟩ := h.2 hn
 refine ⟨_, c, rfl, fun j u hu => ?_⟩
 have hj : j < xs.length * 2 := by have := (List.getElem?_eq_some_iff.1 hu).1; rwa [ptCells_len] at this
 have hl := h.1
 have e : j = j / 2 * 2 + j % 2 := by omega
 have hf := ptFlat xs (j / 2) (j % 2) (by omega) (by omega)
 rw [← e, hu, at_p (by omega)] at hf
 obtain ⟨h1, h2⟩ := hc (j / 2) (by omega)
 rw [add_none]
 rcases (show j % 2 = 0 ∨ j % 2 = 1 by omega) with e2 | e2
 ·rw [e2] at hf
  rw [show o + j = o + j / 2 * 2 by omega, h1]
  simpa [ptCells] using hf.symm
 ·rw [e2] at hf
  rw [show o + j = o + j / 2 * 2 + 1 by omega, h2]
  simpa [ptCells] using hf.symm
/-- A row of points, as points. -/
theorem ptsRow {w : World} {B T n : Nat} {A : Option Addr} {c : Nat} {xs : List (Int × Int)} (h : w.ownsRow B T 2 (.slice A n c) n (xs.flatMap ptCells)) (hn : xs.length = n) : Pts w A n xs := by
 refine ⟨hn, fun h0 => ?_⟩
 rcases h.2 with ⟨_, e⟩ | ⟨g, cap, cur, e, hb, hg, hcap, hmax, hsz, htk⟩
 ·omega
 ·injection e with e1 e2 e3
  subst e1
  refine ⟨g, 0, rfl, lt_of_some hg, fun k hk => ?_⟩
  have hf := fun q hq => ptFlat xs k q (by omega) hq
  have hc : ∀ j, j < n * 2 → cur[j]? = (xs.flatMap ptCells)[j]? := fun j hj => by
   rw [← htk, List.getElem?_take, if_pos hj]
   simp
  rw [cell_of_row w g _ _ T (0, 0) hg, cell_of_row w g _ _ T (0, 0) hg, Nat.zero_add, hc _ (by omega), hc _ (by omega)]
  have h0 := hf 0 (by omega)
  have h1 := hf 1 (by omega)
  rw [at_p (by omega)] at h0 h1
  exact ⟨by simpa [ptCells] using h0, by simpa [ptCells] using h1⟩
theorem rowCap {w : World} {B T s n : Nat} {A : Option Addr} {c : Nat} {xs : List Value} (h : w.ownsRow B T s (.slice A n c) n xs) : n ≤ c := by
 rcases h.2 with ⟨e, _⟩ | ⟨g, cap, cur, e, hb, hg, hcap, hmax, hsz, htk⟩
 ·injection e; omega
 ·injection e; omega
theorem reg_len {rs : List Ring_} (h : regionB rs = true) : rs.length ≤ 40 := by
 simp [regionB] at h
 omega
section
variable {w : World} {Rs : List Res}
/-- A cell that was there, in later worlds: by itself, as a struct of one cell. -/
theorem rdOld {b o : Nat} {v : Value} (hc : w.cell? ⟨b, o, none⟩ = some v) (hb : b < w.heap.size) : ∀ w', St ⟨w, []⟩ Rs w' → w'.cell? ⟨b, o, none⟩ = some v := fun w' hs => ((ocell hs.fin).1 b o hb).trans hc
theorem rdOld0 {b o : Nat} {v : Value} (hc : w.cell? ⟨b, o, none⟩ = some v) (hb : b < w.heap.size) : ∀ w', St ⟨w, []⟩ Rs w' → w'.cell? ⟨b, o + 0, none⟩ = some v := fun w' hs => rdOld hc hb w' hs
end
theorem pos_of_ring {xs : List (Int × Int)} (h : ringB xs = true) : 0 < xs.length ∧ xs.length ≤ 400 := by simp [ringB, inB] at h; omega

end Go.Proofs.Ytjhaakollekjeaa
