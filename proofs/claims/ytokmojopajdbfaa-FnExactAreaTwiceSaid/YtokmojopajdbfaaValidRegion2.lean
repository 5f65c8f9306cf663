/- The law ValidRegion, walked. -/
import Derived.Test.YtokmojopajdbfaaValidRegion
import Derived.Test.YtokmojopajdbfaaSame
import Derived.Test.YtokmojopajdbfaaValidRing
namespace Go.Proofs.Ytokmojopajdbfaa
open Go Go.RowKit

set_option maxHeartbeats 1000000 in
set_option maxRecDepth 100000 in
theorem law_ValidRegion (A : Option Addr) (n c : Nat) (rs : List Ring_) (w : World) (h : Rings w A n rs) (hm : (n : Int) ≤ 9223372036854775807) :
    Calls Try.prog 10 #[regV A n c] w fun e w' => e = .returned (.bool true) ∧ Over w w' := by
  by_cases ht : (total rs : Int) ≤ 1048576
  · have hs := szV_small ht
    have hrl : ∀ k, k < n → ((rg rs k).length : Int) ≤ 1048576 := fun k hk => by have := rg_le_total rs (k := k) (by rw [h.1]; exact hk); omega
    go_enter Try.func10, Try.ntmps10
    go_wp2_with fail
    refine (szRegion_any _ _ _ rs _ _ (h.over (by repeat (first | exact Over.refl _ | (with_reducible assumption) | refine Over.alloc_ ?_ _ | refine Over.trans ?_ (by with_reducible assumption) | refine Over.drew_ ?_ | refine Over.set_ ?_ (by simp; try omega) _))) (by omega) (by omega) hm).mono ?_
    clear hm
    rintro e w1 ⟨rfl, h1⟩
    rw [hs]
    clear hs
    obtain ⟨hc, hf⟩ := ocell h1
    go_wp2_with fail
    refine (toRegion_any _ _ _ rs _ (h.over (by repeat (first | exact Over.refl _ | (with_reducible assumption) | refine Over.alloc_ ?_ _ | refine Over.trans ?_ (by with_reducible assumption) | refine Over.drew_ ?_ | refine Over.set_ ?_ (by simp; try omega) _))) ht).mono ?_
    rintro e w2 ⟨g2, rfl, hown2, h2⟩
    go_wp2_with fail
    refine (specValidRegion_any _ _ _ rs _ (hown2.rings hrl) ht).mono ?_
    rintro e w3 ⟨rfl, h3⟩
    clear hc hf
    have hO3 := h1.trans (h2.trans h3)
    obtain ⟨hc, hf⟩ := ocell hO3
    go_wp2_with fail
    refine (toRegion_any _ _ _ rs _ (h.over (by repeat (first | exact Over.refl _ | (with_reducible assumption) | refine Over.alloc_ ?_ _ | refine Over.trans ?_ (by with_reducible assumption) | refine Over.drew_ ?_ | refine Over.set_ ?_ (by simp; try omega) _))) ht).mono ?_
    rintro e w4 ⟨g4, rfl, hown4, h4⟩
    go_wp2_with fail
    refine (ValidRegion_any _ _ _ rs _ ((hown4.over (by repeat (first | exact Over.refl _ | (with_reducible assumption) | refine Over.alloc_ ?_ _ | refine Over.trans ?_ (by with_reducible assumption) | refine Over.drew_ ?_ | refine Over.set_ ?_ (by simp; try omega) _))).rings hrl) ht).mono ?_
    rintro e w5 ⟨rfl, h5⟩
    have hx : w5.cell? ⟨w4.heap.size, 0, none⟩ = some (.slice (some ⟨g4, 0, none⟩) n n) := ((ocell h5).1 _ _ (by simp)).trans (by go_simp)
    have hx' : w4.heap.size < w5.heap.size := by have := h5.size; simp at this; omega
    have ho5 : OwnR _ w5 g4 n rs := (hown4.over (Over.alloc _ _)).over h5
    have hO5 := hO3.trans ((Over.alloc_ h4 _).trans h5)
    clear hc hf hO3 h1 h2 h3 h4 h5 hown2 hown4
    obtain ⟨hc, hf⟩ := ocell hO5
    have hz0 : w.heap.size < w5.heap.size := Nat.lt_of_lt_of_le (by simp <;> omega) (Over.size hO5)
    have hq : (regionB rs != regionB rs) = false := by simp
    go_wp2
    refine wp_region_O (B := ob _) (Over.refl _) (by kernel_rfl) (by simp only [List.size_toArray, List.length_cons, List.length_nil, Nat.reduceAdd]; rfl) (fun hBW => ?_)
    refine wpAnyO_take (i := 0) (v := _) (by assumption) (by simp only [List.getElem?_toArray, List.getElem?_cons_zero]; rfl) (by kernel_rfl) (by kernel_rfl) (by kernel_rfl) (by exact fun _ _ _ h => h) (by kernel_rfl) (fun wx hS => by (obtain ⟨hc, hf⟩ := ocell hS; go_simp; exact ⟨rfl, Over.refl _⟩)) ?_
    simp only [Act.put, List.setIfInBounds_toArray, List.set_cons_zero, List.set_cons_succ]
    refine wpAnyO_take (i := 1) (v := _) (by assumption) (by simp only [List.getElem?_toArray, List.getElem?_cons_zero, List.getElem?_cons_succ]; rfl) (by kernel_rfl) (by kernel_rfl) (by kernel_rfl) (by exact fun _ _ _ h => h) (by kernel_rfl) (fun wx hS => by (obtain ⟨hc, hf⟩ := ocell hS; go_simp; exact ⟨rfl, Over.refl _⟩)) ?_
    simp only [Act.put, List.setIfInBounds_toArray, List.set_cons_zero, List.set_cons_succ]
    refine wpAnyO_one (i := 2) (by simp only [List.getElem?_toArray, List.getElem?_cons_zero, List.getElem?_cons_succ]; rfl) (by kernel_rfl) (by kernel_rfl) (fun w6 h6 K hK => ?_)
    go_step
    refine (toRegion_any _ _ _ rs _ (h.over (by repeat (first | exact Over.refl _ | (with_reducible assumption) | refine Over.alloc_ ?_ _ | refine Over.trans ?_ (by with_reducible assumption) | refine Over.drew_ ?_ | refine Over.set_ ?_ (by simp; try omega) _))) ht).mono ?_
    rintro e w7 ⟨g7, rfl, hown7, h7⟩
    dsimp only
    refine hK.out _ _ (by repeat (first | exact Over.refl _ | (with_reducible assumption) | refine Over.alloc_ ?_ _ | refine Over.trans ?_ (by with_reducible assumption) | refine Over.drew_ ?_ | refine Over.set_ ?_ (by simp; try omega) _)) (fun hB => ?_)
    clear hK K
    refine wpAnyO_one (i := 3) (by simp only [List.getElem?_toArray, List.getElem?_cons_zero, List.getElem?_cons_succ]; rfl) (by kernel_rfl) (by kernel_rfl) (fun w8 h8 K hK => ?_)
    go_step
    refine (eqRegion_same _ _ _ _ _ rs _ ((ho5.over (by repeat (first | exact Over.refl _ | (with_reducible assumption) | refine Over.alloc_ ?_ _ | refine Over.trans ?_ (by with_reducible assumption) | refine Over.drew_ ?_ | refine Over.set_ ?_ (by simp; try omega) _))).rings hrl) ((hown7.over (by repeat (first | exact Over.refl _ | (with_reducible assumption) | refine Over.alloc_ ?_ _ | refine Over.trans ?_ (by with_reducible assumption) | refine Over.drew_ ?_ | refine Over.set_ ?_ (by simp; try omega) _))).rings hrl) ht).mono ?_
    rintro e w9 ⟨rfl, h9⟩
    dsimp only
    refine hK.out _ _ (by repeat (first | exact Over.refl _ | (with_reducible assumption) | refine Over.alloc_ ?_ _ | refine Over.trans ?_ (by with_reducible assumption) | refine Over.drew_ ?_ | refine Over.set_ ?_ (by simp; try omega) _)) (fun hB => ?_)
    clear hK K
    refine wpAnyO_take (i := 4) (v := _) (by assumption) (by simp only [List.getElem?_toArray, List.getElem?_cons_zero, List.getElem?_cons_succ]; rfl) (by kernel_rfl) (by kernel_rfl) (by kernel_rfl) (by exact fun _ _ _ h => h) (by kernel_rfl) (fun wx hS => by (go_simp; exact ⟨rfl, Over.refl _⟩)) ?_
    simp only [Act.put, List.setIfInBounds_toArray, List.set_cons_zero, List.set_cons_succ]
    refine wpAnyO_done (by kernel_rfl) (fun w10 h10 => ?_) _
    try clear hBW
    go_wp2
    go_ret
    exact ⟨rfl, (by repeat (first | exact Over.refl _ | (with_reducible assumption) | refine Over.alloc_ ?_ _ | refine Over.trans ?_ (by with_reducible assumption) | refine Over.drew_ ?_ | refine Over.set_ ?_ (by simp; try omega) _))⟩
  · have hs := szV_big ht
    go_enter Try.func10, Try.ntmps10
    go_wp2_with fail
    refine (szRegion_any _ _ _ rs _ _ (h.over (by repeat (first | exact Over.refl _ | (with_reducible assumption) | refine Over.alloc_ ?_ _ | refine Over.trans ?_ (by with_reducible assumption) | refine Over.drew_ ?_ | refine Over.set_ ?_ (by simp; try omega) _))) (by omega) (by omega) hm).mono ?_
    clear hm
    rintro e w1 ⟨rfl, h1⟩
    rw [hs]
    go_wp2
    go_ret
    exact ⟨rfl, (by repeat (first | exact Over.refl _ | (with_reducible assumption) | refine Over.alloc_ ?_ _ | refine Over.trans ?_ (by with_reducible assumption) | refine Over.drew_ ?_ | refine Over.set_ ?_ (by simp; try omega) _))⟩
end Go.Proofs.Ytokmojopajdbfaa
