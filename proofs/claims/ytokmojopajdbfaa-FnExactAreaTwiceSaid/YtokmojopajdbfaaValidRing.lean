/- The law ValidRing, walked. -/
import Derived.Test.YtokmojopajdbfaaRing
namespace Go.Proofs.Ytokmojopajdbfaa
open Go Go.RowKit

theorem szV_big {n : Nat} (h : ¬ (n : Int) ≤ 1048576) : szV 1048576 n = -1 := by unfold szV; rw [if_neg h]
theorem szV_small {n : Nat} (h : (n : Int) ≤ 1048576) : szV 1048576 n = 1048576 - n := by unfold szV; rw [if_pos h]

set_option maxHeartbeats 400000 in
set_option maxRecDepth 100000 in
theorem law_ValidRing (A : Option Addr) (n c : Nat) (xs : List (Int × Int)) (w : World) (h : Pts w A n xs) (hm : (n : Int) ≤ 9223372036854775807) :
    Calls Try.prog 4 #[ringV A n c] w fun e w' => e = .returned (.bool true) ∧ Over w w' := by
  by_cases hn : (n : Int) ≤ 1048576
  · have hs := szV_small hn
    go_enter Try.func4, Try.ntmps4
    go_wp2_with fail
    refine (szRing_any _ _ _ _ _ (by omega) (by omega) hm).mono ?_
    clear hm
    rintro e w1 ⟨rfl, h1⟩
    rw [hs]
    obtain ⟨hc, hf⟩ := ocell h1
    go_wp2_with fail
    refine (toRing_any _ _ _ xs _ (h.over (by repeat (first | exact Over.refl _ | (with_reducible assumption) | refine Over.alloc_ ?_ _ | refine Over.trans ?_ (by with_reducible assumption) | refine Over.drew_ ?_ | refine Over.set_ ?_ (by simp; try omega) _))) hn).mono ?_
    rintro e w2 ⟨g2, rfl, -, hown2, h2⟩
    go_wp2_with fail
    refine (specValidRing_any _ _ _ xs _ hown2.2 hn).mono ?_
    rintro e w3 ⟨rfl, h3⟩
    clear hc hf
    have hO3 := h1.trans (h2.trans h3)
    obtain ⟨hc, hf⟩ := ocell hO3
    go_wp2_with fail
    refine (toRing_any _ _ _ xs _ (h.over (by repeat (first | exact Over.refl _ | (with_reducible assumption) | refine Over.alloc_ ?_ _ | refine Over.trans ?_ (by with_reducible assumption) | refine Over.drew_ ?_ | refine Over.set_ ?_ (by simp; try omega) _))) hn).mono ?_
    rintro e w4 ⟨g4, rfl, -, hown4, h4⟩
    go_wp2_with fail
    refine (ValidRing_any _ _ _ xs _ (hown4.2.over (by repeat (first | exact Over.refl _ | (with_reducible assumption) | refine Over.alloc_ ?_ _ | refine Over.trans ?_ (by with_reducible assumption) | refine Over.drew_ ?_ | refine Over.set_ ?_ (by simp; try omega) _))) hn).mono ?_
    rintro e w5 ⟨rfl, h5⟩
    have hx : w5.cell? ⟨w4.heap.size, 0, none⟩ = some (.slice (some ⟨g4, 0, none⟩) n n) := ((ocell h5).1 _ _ (by simp)).trans (by go_simp)
    have hx' : w4.heap.size < w5.heap.size := by have := h5.size; simp at this; omega
    have ho5 : Own w5 g4 n xs := (hown4.over (Over.alloc _ _)).over h5
    have hO5 := hO3.trans ((Over.alloc_ h4 _).trans h5)
    clear hc hf hO3 h1 h2 h3 h4 h5 hown2 hown4
    obtain ⟨hc, hf⟩ := ocell hO5
    have hz0 : w.heap.size < w5.heap.size := Nat.lt_of_lt_of_le (by simp <;> omega) (Over.size hO5)
    go_wp2
    refine wp_region_O (B := ob _) (Over.refl _) (by kernel_rfl) (by simp only [List.size_toArray, List.length_cons, List.length_nil, Nat.reduceAdd]; rfl) (fun hBW => ?_)
    refine wpAnyO_take (i := 0) (v := _) (by assumption) (by simp only [List.getElem?_toArray, List.getElem?_cons_zero]; rfl) (by kernel_rfl) (by kernel_rfl) (by kernel_rfl) (by exact fun _ _ _ h => h) (by kernel_rfl) (fun wx hS => by (obtain ⟨hc, hf⟩ := ocell hS; go_simp; exact ⟨rfl, Over.refl _⟩)) ?_
    simp only [Act.put, List.setIfInBounds_toArray, List.set_cons_zero, List.set_cons_succ]
    refine wpAnyO_take (i := 1) (v := _) (by assumption) (by simp only [List.getElem?_toArray, List.getElem?_cons_zero, List.getElem?_cons_succ]; rfl) (by kernel_rfl) (by kernel_rfl) (by kernel_rfl) (by exact fun _ _ _ h => h) (by kernel_rfl) (fun wx hS => by (obtain ⟨hc, hf⟩ := ocell hS; go_simp; exact ⟨rfl, Over.refl _⟩)) ?_
    simp only [Act.put, List.setIfInBounds_toArray, List.set_cons_zero, List.set_cons_succ]
    refine wpAnyO_one (i := 2) (by simp only [List.getElem?_toArray, List.getElem?_cons_zero, List.getElem?_cons_succ]; rfl) (by kernel_rfl) (by kernel_rfl) (fun w6 h6 K hK => ?_)
    go_step
    refine (toRing_any _ _ _ xs _ (h.over (by repeat (first | exact Over.refl _ | (with_reducible assumption) | refine Over.alloc_ ?_ _ | refine Over.trans ?_ (by with_reducible assumption) | refine Over.drew_ ?_ | refine Over.set_ ?_ (by simp; try omega) _))) hn).mono ?_
    rintro e w7 ⟨g7, rfl, -, hown7, h7⟩
    dsimp only
    refine hK.out _ _ (by repeat (first | exact Over.refl _ | (with_reducible assumption) | refine Over.alloc_ ?_ _ | refine Over.trans ?_ (by with_reducible assumption) | refine Over.drew_ ?_ | refine Over.set_ ?_ (by simp; try omega) _)) (fun hB => ?_)
    clear hK K
    refine wpAnyO_one (i := 3) (by simp only [List.getElem?_toArray, List.getElem?_cons_zero, List.getElem?_cons_succ]; rfl) (by kernel_rfl) (by kernel_rfl) (fun w8 h8 K hK => ?_)
    go_step
    refine (eqRing_same _ _ _ _ _ xs _ (ho5.2.over (by repeat (first | exact Over.refl _ | (with_reducible assumption) | refine Over.alloc_ ?_ _ | refine Over.trans ?_ (by with_reducible assumption) | refine Over.drew_ ?_ | refine Over.set_ ?_ (by simp; try omega) _))) (hown7.2.over (by repeat (first | exact Over.refl _ | (with_reducible assumption) | refine Over.alloc_ ?_ _ | refine Over.trans ?_ (by with_reducible assumption) | refine Over.drew_ ?_ | refine Over.set_ ?_ (by simp; try omega) _))) hn).mono ?_
    rintro e w9 ⟨rfl, h9⟩
    dsimp only
    refine hK.out _ _ (by repeat (first | exact Over.refl _ | (with_reducible assumption) | refine Over.alloc_ ?_ _ | refine Over.trans ?_ (by with_reducible assumption) | refine Over.drew_ ?_ | refine Over.set_ ?_ (by simp; try omega) _)) (fun hB => ?_)
    clear hK K
    refine wpAnyO_take (i := 4) (v := _) (by assumption) (by simp only [List.getElem?_toArray, List.getElem?_cons_zero, List.getElem?_cons_succ]; rfl) (by kernel_rfl) (by kernel_rfl) (by kernel_rfl) (by exact fun _ _ _ h => h) (by kernel_rfl) (fun wx hS => by (go_simp; exact ⟨rfl, Over.refl _⟩)) ?_
    simp only [Act.put, List.setIfInBounds_toArray, List.set_cons_zero, List.set_cons_succ]
    refine wpAnyO_done (by kernel_rfl) (fun w10 h10 => ?_) _
    try clear hBW
    go_wp2
    go_ret
    exact ⟨rfl, (by repeat (first | exact Over.refl _ | (with_reducible assumption) | refine Over.alloc_ ?_ _ | refine Over.trans ?_ (by with_reducible assumption) | refine Over.drew_ ?_ | refine Over.set_ ?_ (by simp; try omega) _))⟩
  · have hs := szV_big hn
    go_enter Try.func4, Try.ntmps4
    go_wp2_with (go_at_call 18; refine (szRing_any _ _ _ _ _ (by omega) (by omega) hm).mono ?_; rintro e wx ⟨rfl, hb⟩; (first | (replace hO := Over.trans hO hb) | (replace hO := Over.trans (Over.alloc_ hO _) hb) | (replace hO := Over.trans (Over.alloc_ (Over.alloc_ hO _) _) hb) | (have hO := hb)); (try clear hc hf); obtain ⟨hc, hf⟩ := ocell hO; (try clear hb); (try clear hz0); have hz0 : w.heap.size < wx.heap.size := Nat.lt_of_lt_of_le (by simp <;> omega) (Over.size hO); rw [hs])
    go_ret
    exact ⟨rfl, (by repeat (first | exact Over.refl _ | (with_reducible assumption) | refine Over.alloc_ ?_ _ | refine Over.trans ?_ (by with_reducible assumption) | refine Over.drew_ ?_ | refine Over.set_ ?_ (by simp; try omega) _))⟩
end Go.Proofs.Ytokmojopajdbfaa
