/- The law SameRegion, walked. -/
import Derived.Test.YtokmojopajdbfaaSame3
namespace Go.Proofs.Ytokmojopajdbfaa
open Go Go.RowKit

set_option maxHeartbeats 2000000 in
set_option maxRecDepth 100000 in
theorem law_SameRegion (A B : Option Addr) (n m c d : Nat) (rs ss : List Ring_) (w : World) (h : Rings w A n rs) (h' : Rings w B m ss) (hn : (n : Int) ≤ 9223372036854775807) (hm : (m : Int) ≤ 9223372036854775807) :
    Calls Try.prog 9 #[regV A n c, regV B m d] w fun e w' => e = .returned (.bool true) ∧ Over w w' := by
  by_cases t1 : (total rs : Int) ≤ 1048576
  · have hs1 := szV_small t1
    by_cases t2 : (total ss : Int) ≤ 1048576 - total rs
    · have hs2 : szV (1048576 - total rs) (total ss) = 1048576 - total rs - total ss := by unfold szV; rw [if_pos t2]
      have t2' : (total ss : Int) ≤ 1048576 := by omega
      have hrl : ∀ k, k < n → ((rg rs k).length : Int) ≤ 1048576 := fun k hk => by have := rg_le_total rs (k := k) (by rw [h.1]; exact hk); omega
      have hsl : ∀ k, k < m → ((rg ss k).length : Int) ≤ 1048576 := fun k hk => by have := rg_le_total ss (k := k) (by rw [h'.1]; exact hk); omega
      go_enter Try.func9, Try.ntmps9
      go_wp2_with fail
      refine (szRegion_any _ _ _ rs _ _ (h.over (by repeat (first | exact Over.refl _ | (with_reducible assumption) | refine Over.alloc_ ?_ _ | refine Over.trans ?_ (by with_reducible assumption) | refine Over.drew_ ?_ | refine Over.set_ ?_ (by simp; try omega) _))) (by omega) (by omega) hn).mono ?_
      clear hn
      rintro e w1 ⟨rfl, h1⟩
      rw [hs1]
      clear hs1
      obtain ⟨hc, hf⟩ := ocell h1
      have hz0 : w.heap.size < w1.heap.size := Nat.lt_of_lt_of_le (by simp <;> omega) (Over.size h1)
      have hz1 : w.heap.size + 1 < w1.heap.size := Nat.lt_of_lt_of_le (by simp <;> omega) (Over.size h1)
      go_wp2_with fail
      refine (szRegion_any _ _ _ ss _ _ (h'.over (by repeat (first | exact Over.refl _ | (with_reducible assumption) | refine Over.alloc_ ?_ _ | refine Over.trans ?_ (by with_reducible assumption) | refine Over.drew_ ?_ | refine Over.set_ ?_ (by simp; try omega) _))) (by omega) (by omega) hm).mono ?_
      clear hm
      rintro e w2 ⟨rfl, h2⟩
      rw [hs2]
      clear hs2 hc hf hz0 hz1
      have hO := h1.trans h2
      clear h1 h2
      obtain ⟨hc, hf⟩ := ocell hO
      have hz0 : w.heap.size < w2.heap.size := Nat.lt_of_lt_of_le (by simp <;> omega) (Over.size hO)
      have hz1 : w.heap.size + 1 < w2.heap.size := Nat.lt_of_lt_of_le (by simp <;> omega) (Over.size hO)
      go_wp2
      refine wp_region_O (B := ob _) (by first | assumption | exact Over.refl _) (by kernel_rfl) (by simp only [List.size_toArray, List.length_cons, List.length_nil, Nat.reduceAdd]; rfl) (fun (hBW : Over _ _) => ?_)
      refine wpAnyO_take (i := 0) (v := _) (by assumption) (by simp only [List.getElem?_toArray, List.getElem?_cons_zero]; rfl) (by kernel_rfl) (by kernel_rfl) (by kernel_rfl) (by exact fun _ _ _ h => h) (by kernel_rfl) (fun wx hS => by (obtain ⟨hc, hf⟩ := ocell hS; clear hS; go_simp; (try go_bits); exact ⟨rfl, Over.refl _⟩)) ?_
      simp only [Act.put, List.setIfInBounds_toArray, List.set_cons_zero, List.set_cons_succ]
      refine wpAnyO_take (i := 2) (v := _) (by assumption) (by simp only [List.getElem?_toArray, List.getElem?_cons_zero, List.getElem?_cons_succ]; rfl) (by kernel_rfl) (by kernel_rfl) (by kernel_rfl) (by exact fun _ _ _ h => h) (by kernel_rfl) (fun wx hS => by (obtain ⟨hc, hf⟩ := ocell hS; clear hS; go_simp; (try go_bits); exact ⟨rfl, Over.refl _⟩)) ?_
      simp only [Act.put, List.setIfInBounds_toArray, List.set_cons_zero, List.set_cons_succ]
      refine wpAnyO_one (i := 1) (by simp only [List.getElem?_toArray, List.getElem?_cons_zero, List.getElem?_cons_succ]; rfl) (by kernel_rfl) (by kernel_rfl) (fun w3 h3 K hK => ?_)
      go_step
      refine (toRegion_any _ _ _ rs _ (h.over ((Over.alloc_ (Over.alloc _ _) _).trans (hO.trans h3))) t1).mono ?_
      rintro e w4 ⟨g1, rfl, ho1, h4⟩
      dsimp only
      refine hK.out _ _ (by repeat (first | exact Over.refl _ | (with_reducible assumption) | refine Over.alloc_ ?_ _ | refine Over.trans ?_ (by with_reducible assumption) | refine Over.drew_ ?_ | refine Over.set_ ?_ (by simp; try omega) _)) (fun hB => ?_)
      clear hK K
      refine wpAnyO_one (i := 3) (by simp only [List.getElem?_toArray, List.getElem?_cons_zero, List.getElem?_cons_succ]; rfl) (by kernel_rfl) (by kernel_rfl) (fun w5 h5 K hK => ?_)
      go_step
      refine (toRegion_any _ _ _ ss _ (h'.over ((Over.alloc_ (Over.alloc _ _) _).trans (hO.trans (h3.trans (h4.trans h5))))) t2').mono ?_
      rintro e w6 ⟨g2, rfl, ho2, h6⟩
      dsimp only
      refine hK.out _ _ (by repeat (first | exact Over.refl _ | (with_reducible assumption) | refine Over.alloc_ ?_ _ | refine Over.trans ?_ (by with_reducible assumption) | refine Over.drew_ ?_ | refine Over.set_ ?_ (by simp; try omega) _)) (fun hB => ?_)
      clear hK K
      refine wpAnyO_one (i := 4) (by simp only [List.getElem?_toArray, List.getElem?_cons_zero, List.getElem?_cons_succ]; rfl) (by kernel_rfl) (by kernel_rfl) (fun w7 h7 K hK => ?_)
      go_step
      refine (specSameRegion_any _ _ _ _ _ _ rs ss _ ((ho1.over (h5.trans (h6.trans h7))).rings hrl) ((ho2.over h7).rings hsl) t1 t2').mono ?_
      rintro e w8 ⟨rfl, h8⟩
      dsimp only
      refine hK.out _ _ (by repeat (first | exact Over.refl _ | (with_reducible assumption) | refine Over.alloc_ ?_ _ | refine Over.trans ?_ (by with_reducible assumption) | refine Over.drew_ ?_ | refine Over.set_ ?_ (by simp; try omega) _)) (fun hB => ?_)
      clear hK K
      refine wpAnyO_take (i := 5) (v := _) (by assumption) (by simp only [List.getElem?_toArray, List.getElem?_cons_zero, List.getElem?_cons_succ]; rfl) (by kernel_rfl) (by kernel_rfl) (by kernel_rfl) (by exact fun _ _ _ h => h) (by kernel_rfl) (fun wx hS => by (obtain ⟨hc, hf⟩ := ocell hS; clear hS; go_simp; (try go_bits); exact ⟨rfl, Over.refl _⟩)) ?_
      simp only [Act.put, List.setIfInBounds_toArray, List.set_cons_zero, List.set_cons_succ]
      refine wpAnyO_done (by kernel_rfl) (fun w9 h9 => ?_) _
      try clear hBW
      have hO9 := hO.trans (h3.trans (h4.trans (h5.trans (h6.trans (h7.trans (h8.trans h9))))))
      clear hO h3 h4 h5 h6 h7 h8 h9 hc hf hz0 hz1 ho1 ho2
      obtain ⟨hc, hf⟩ := ocell hO9
      have hz0 : w.heap.size < w9.heap.size := Nat.lt_of_lt_of_le (by simp <;> omega) (Over.size hO9)
      have hz1 : w.heap.size + 1 < w9.heap.size := Nat.lt_of_lt_of_le (by simp <;> omega) (Over.size hO9)
      go_wp2_with fail
      refine (toRegion_any _ _ _ rs _ (h.over ((Over.alloc_ (Over.alloc _ _) _).trans hO9)) t1).mono ?_
      rintro e w10 ⟨g3, rfl, ho3, h10⟩
      have hO10 := hO9.trans h10
      clear hc hf hz0 hz1 hO9 h10
      obtain ⟨hc, hf⟩ := ocell hO10
      have hz0 : w.heap.size < w10.heap.size := Nat.lt_of_lt_of_le (by simp <;> omega) (Over.size hO10)
      have hz1 : w.heap.size + 1 < w10.heap.size := Nat.lt_of_lt_of_le (by simp <;> omega) (Over.size hO10)
      have hz2 : w.heap.size + 1 < w10.heap.size + 1 := by omega
      go_wp2_with fail
      refine (toRegion_any _ _ _ ss _ (h'.over ((Over.alloc_ (Over.alloc _ _) _).trans (hO10.trans (Over.alloc _ _)))) t2').mono ?_
      rintro e w11 ⟨g4, rfl, ho4, h11⟩
      have x7 : w11.cell? ⟨w10.heap.size, 0, none⟩ = some (.slice (some ⟨g3, 0, none⟩) n n) := ((ocell h11).1 _ _ (by simp)).trans (by go_simp)
      have y7 : w10.heap.size < w11.heap.size := by have := h11.size; simp at this; omega
      have y7' : w10.heap.size < w11.heap.size + 1 := by omega
      have o3 := ho3.over ((Over.alloc _ _).trans h11)
      have hO11 := hO10.trans ((Over.alloc _ _).trans h11)
      clear hc hf hz0 hz1 hz2 hO10 h11 ho3
      obtain ⟨hc, hf⟩ := ocell hO11
      have hz0 : w.heap.size < w11.heap.size := Nat.lt_of_lt_of_le (by simp <;> omega) (Over.size hO11)
      have hz1 : w.heap.size + 1 < w11.heap.size := Nat.lt_of_lt_of_le (by simp <;> omega) (Over.size hO11)
      go_wp2_with fail
      refine (SameRegion_any _ _ _ _ _ _ rs ss _ ((o3.over (Over.alloc _ _)).rings hrl) ((ho4.over (Over.alloc _ _)).rings hsl) t1 t2').mono ?_
      rintro e w12 ⟨rfl, h12⟩
      have hI12 := (Over.alloc w11 (.cells #[.slice (some ⟨g4, 0, none⟩) m m] 54)).trans h12
      have x7b : w12.cell? ⟨w10.heap.size, 0, none⟩ = some (.slice (some ⟨g3, 0, none⟩) n n) := ((ocell hI12).1 _ _ y7).trans x7
      have x8 : w12.cell? ⟨w11.heap.size, 0, none⟩ = some (.slice (some ⟨g4, 0, none⟩) m m) := ((ocell h12).1 _ _ (by simp)).trans (by go_simp)
      have y8 : w11.heap.size < w12.heap.size := by have := h12.size; simp at this; omega
      have y7b : w10.heap.size < w12.heap.size := by omega
      have o3b := o3.over hI12
      have o4b := ho4.over hI12
      have hO12 := hO11.trans hI12
      clear hc hf hz0 hz1 hO11 h12 hI12 ho4 o3 x7 y7 y7'
      obtain ⟨hc, hf⟩ := ocell hO12
      have hz0 : w.heap.size < w12.heap.size := Nat.lt_of_lt_of_le (by simp <;> omega) (Over.size hO12)
      have hz1 : w.heap.size + 1 < w12.heap.size := Nat.lt_of_lt_of_le (by simp <;> omega) (Over.size hO12)
      have hq : (decide (rs = ss) != decide (rs = ss)) = false := by simp
      go_wp2
      refine wp_region_O (B := ob _) (Over.refl _) (by kernel_rfl) (by simp only [List.size_toArray, List.length_cons, List.length_nil, Nat.reduceAdd]; rfl) (fun hBW => ?_)
      refine wpAnyO_take (i := 0) (v := _) (by assumption) (by simp only [List.getElem?_toArray, List.getElem?_cons_zero]; rfl) (by kernel_rfl) (by kernel_rfl) (by kernel_rfl) (by exact fun _ _ _ h => h) (by kernel_rfl) (fun wx hS => by (obtain ⟨hc, hf⟩ := ocell hS; go_simp; exact ⟨rfl, Over.refl _⟩)) ?_
      simp only [Act.put, List.setIfInBounds_toArray, List.set_cons_zero, List.set_cons_succ]
      refine wpAnyO_take (i := 1) (v := _) (by assumption) (by simp only [List.getElem?_toArray, List.getElem?_cons_zero, List.getElem?_cons_succ]; rfl) (by kernel_rfl) (by kernel_rfl) (by kernel_rfl) (by exact fun _ _ _ h => h) (by kernel_rfl) (fun wx hS => by (obtain ⟨hc, hf⟩ := ocell hS; go_simp; exact ⟨rfl, Over.refl _⟩)) ?_
      simp only [Act.put, List.setIfInBounds_toArray, List.set_cons_zero, List.set_cons_succ]
      refine wpAnyO_one (i := 2) (by simp only [List.getElem?_toArray, List.getElem?_cons_zero, List.getElem?_cons_succ]; rfl) (by kernel_rfl) (by kernel_rfl) (fun v1 k1 K hK => ?_)
      go_step
      refine (toRegion_any _ _ _ rs _ (h.over ((Over.alloc_ (Over.alloc _ _) _).trans (hO12.trans k1))) t1).mono ?_
      rintro e v2 ⟨gg, rfl, hog, k2⟩
      dsimp only
      refine hK.out _ _ (by repeat (first | exact Over.refl _ | (with_reducible assumption) | refine Over.alloc_ ?_ _ | refine Over.trans ?_ (by with_reducible assumption) | refine Over.drew_ ?_ | refine Over.set_ ?_ (by simp; try omega) _)) (fun hB => ?_)
      clear hK K
      refine wpAnyO_one (i := 3) (by simp only [List.getElem?_toArray, List.getElem?_cons_zero, List.getElem?_cons_succ]; rfl) (by kernel_rfl) (by kernel_rfl) (fun v3 k3 K hK => ?_)
      go_step
      refine (eqRegion_same _ _ _ _ _ rs _ ((o3b.over (k1.trans (k2.trans k3))).rings hrl) ((hog.over k3).rings hrl) t1).mono ?_
      rintro e v4 ⟨rfl, k4⟩
      dsimp only
      refine hK.out _ _ (by repeat (first | exact Over.refl _ | (with_reducible assumption) | refine Over.alloc_ ?_ _ | refine Over.trans ?_ (by with_reducible assumption) | refine Over.drew_ ?_ | refine Over.set_ ?_ (by simp; try omega) _)) (fun hB => ?_)
      clear hK K
      refine wpAnyO_take (i := 4) (v := _) (by assumption) (by simp only [List.getElem?_toArray, List.getElem?_cons_zero, List.getElem?_cons_succ]; rfl) (by kernel_rfl) (by kernel_rfl) (by kernel_rfl) (by exact fun _ _ _ h => h) (by kernel_rfl) (fun wx hS => by (go_simp; exact ⟨rfl, Over.refl _⟩)) ?_
      simp only [Act.put, List.setIfInBounds_toArray, List.set_cons_zero, List.set_cons_succ]
      refine wpAnyO_done (by kernel_rfl) (fun w13 k5 => ?_) _
      try clear hBW
      have hI := k1.trans (k2.trans (k3.trans (k4.trans k5)))
      clear k1 k2 k3 k4 k5 hog
      have x8b : w13.cell? ⟨w11.heap.size, 0, none⟩ = some (.slice (some ⟨g4, 0, none⟩) m m) := ((ocell hI).1 _ _ y8).trans x8
      have y8b : w11.heap.size < w13.heap.size := Nat.lt_of_lt_of_le y8 hI.size
      have o4c := o4b.over hI
      have hO13 := hO12.trans hI
      clear hc hf hz0 hz1 hO12 hI o4b o3b x8 y8 x7b y7b
      obtain ⟨hc, hf⟩ := ocell hO13
      have hz0 : w.heap.size < w13.heap.size := Nat.lt_of_lt_of_le (by simp <;> omega) (Over.size hO13)
      have hz1 : w.heap.size + 1 < w13.heap.size := Nat.lt_of_lt_of_le (by simp <;> omega) (Over.size hO13)
      go_wp2
      refine wp_region_O (B := ob _) (Over.refl _) (by kernel_rfl) (by simp only [List.size_toArray, List.length_cons, List.length_nil, Nat.reduceAdd]; rfl) (fun hBW => ?_)
      refine wpAnyO_take (i := 0) (v := _) (by assumption) (by simp only [List.getElem?_toArray, List.getElem?_cons_zero]; rfl) (by kernel_rfl) (by kernel_rfl) (by kernel_rfl) (by exact fun _ _ _ h => h) (by kernel_rfl) (fun wx hS => by (obtain ⟨hc, hf⟩ := ocell hS; go_simp; exact ⟨rfl, Over.refl _⟩)) ?_
      simp only [Act.put, List.setIfInBounds_toArray, List.set_cons_zero, List.set_cons_succ]
      refine wpAnyO_take (i := 1) (v := _) (by assumption) (by simp only [List.getElem?_toArray, List.getElem?_cons_zero, List.getElem?_cons_succ]; rfl) (by kernel_rfl) (by kernel_rfl) (by kernel_rfl) (by exact fun _ _ _ h => h) (by kernel_rfl) (fun wx hS => by (obtain ⟨hc, hf⟩ := ocell hS; go_simp; exact ⟨rfl, Over.refl _⟩)) ?_
      simp only [Act.put, List.setIfInBounds_toArray, List.set_cons_zero, List.set_cons_succ]
      refine wpAnyO_one (i := 2) (by simp only [List.getElem?_toArray, List.getElem?_cons_zero, List.getElem?_cons_succ]; rfl) (by kernel_rfl) (by kernel_rfl) (fun v1 k1 K hK => ?_)
      go_step
      refine (toRegion_any _ _ _ ss _ (h'.over ((Over.alloc_ (Over.alloc _ _) _).trans (hO13.trans k1))) t2').mono ?_
      rintro e v2 ⟨gg, rfl, hog, k2⟩
      dsimp only
      refine hK.out _ _ (by repeat (first | exact Over.refl _ | (with_reducible assumption) | refine Over.alloc_ ?_ _ | refine Over.trans ?_ (by with_reducible assumption) | refine Over.drew_ ?_ | refine Over.set_ ?_ (by simp; try omega) _)) (fun hB => ?_)
      clear hK K
      refine wpAnyO_one (i := 3) (by simp only [List.getElem?_toArray, List.getElem?_cons_zero, List.getElem?_cons_succ]; rfl) (by kernel_rfl) (by kernel_rfl) (fun v3 k3 K hK => ?_)
      go_step
      refine (eqRegion_same _ _ _ _ _ ss _ ((o4c.over (k1.trans (k2.trans k3))).rings hsl) ((hog.over k3).rings hsl) t2').mono ?_
      rintro e v4 ⟨rfl, k4⟩
      dsimp only
      refine hK.out _ _ (by repeat (first | exact Over.refl _ | (with_reducible assumption) | refine Over.alloc_ ?_ _ | refine Over.trans ?_ (by with_reducible assumption) | refine Over.drew_ ?_ | refine Over.set_ ?_ (by simp; try omega) _)) (fun hB => ?_)
      clear hK K
      refine wpAnyO_take (i := 4) (v := _) (by assumption) (by simp only [List.getElem?_toArray, List.getElem?_cons_zero, List.getElem?_cons_succ]; rfl) (by kernel_rfl) (by kernel_rfl) (by kernel_rfl) (by exact fun _ _ _ h => h) (by kernel_rfl) (fun wx hS => by (go_simp; exact ⟨rfl, Over.refl _⟩)) ?_
      simp only [Act.put, List.setIfInBounds_toArray, List.set_cons_zero, List.set_cons_succ]
      refine wpAnyO_done (by kernel_rfl) (fun w14 k5 => ?_) _
      try clear hBW
      have hI := k1.trans (k2.trans (k3.trans (k4.trans k5)))
      clear k1 k2 k3 k4 k5 hog
      have hO14 := hO13.trans hI
      clear hc hf hO13 hI
      go_wp2
      go_ret
      exact ⟨rfl, (by repeat (first | exact Over.refl _ | (with_reducible assumption) | refine Over.alloc_ ?_ _ | refine Over.trans ?_ (by with_reducible assumption) | refine Over.drew_ ?_ | refine Over.set_ ?_ (by simp; try omega) _))⟩
    · have hs2 : szV (1048576 - total rs) (total ss) = -1 := by unfold szV; rw [if_neg t2]
      go_enter Try.func9, Try.ntmps9
      go_wp2_with fail
      refine (szRegion_any _ _ _ rs _ _ (h.over (by repeat (first | exact Over.refl _ | (with_reducible assumption) | refine Over.alloc_ ?_ _ | refine Over.trans ?_ (by with_reducible assumption) | refine Over.drew_ ?_ | refine Over.set_ ?_ (by simp; try omega) _))) (by omega) (by omega) hn).mono ?_
      clear hn
      rintro e w1 ⟨rfl, h1⟩
      rw [hs1]
      clear hs1
      obtain ⟨hc, hf⟩ := ocell h1
      have hz0 : w.heap.size < w1.heap.size := Nat.lt_of_lt_of_le (by simp <;> omega) (Over.size h1)
      have hz1 : w.heap.size + 1 < w1.heap.size := Nat.lt_of_lt_of_le (by simp <;> omega) (Over.size h1)
      go_wp2_with fail
      refine (szRegion_any _ _ _ ss _ _ (h'.over (by repeat (first | exact Over.refl _ | (with_reducible assumption) | refine Over.alloc_ ?_ _ | refine Over.trans ?_ (by with_reducible assumption) | refine Over.drew_ ?_ | refine Over.set_ ?_ (by simp; try omega) _))) (by omega) (by omega) hm).mono ?_
      clear hm
      rintro e w2 ⟨rfl, h2⟩
      rw [hs2]
      go_wp2
      go_ret
      exact ⟨rfl, (by repeat (first | exact Over.refl _ | (with_reducible assumption) | refine Over.alloc_ ?_ _ | refine Over.trans ?_ (by with_reducible assumption) | refine Over.drew_ ?_ | refine Over.set_ ?_ (by simp; try omega) _))⟩
  · have hs1 := szV_big t1
    go_enter Try.func9, Try.ntmps9
    go_wp2_with fail
    refine (szRegion_any _ _ _ rs _ _ (h.over (by repeat (first | exact Over.refl _ | (with_reducible assumption) | refine Over.alloc_ ?_ _ | refine Over.trans ?_ (by with_reducible assumption) | refine Over.drew_ ?_ | refine Over.set_ ?_ (by simp; try omega) _))) (by omega) (by omega) hn).mono ?_
    clear hn hm
    rintro e w1 ⟨rfl, h1⟩
    rw [hs1]
    go_wp2
    go_ret
    exact ⟨rfl, (by repeat (first | exact Over.refl _ | (with_reducible assumption) | refine Over.alloc_ ?_ _ | refine Over.trans ?_ (by with_reducible assumption) | refine Over.drew_ ?_ | refine Over.set_ ?_ (by simp; try omega) _))⟩

theorem law_SameRegion2 (A : Option Addr) (n c : Nat) (rs : List Ring_) (B : Option Addr) (m d : Nat) (ss : List Ring_) (w : World) (h : Rings w A n rs) (hn : (n : Int) ≤ 9223372036854775807) (h' : Rings w B m ss) (hm : (m : Int) ≤ 9223372036854775807) :
    Calls Try.prog 9 #[regV A n c, regV B m d] w fun e w' => e = .returned (.bool true) ∧ Over w w' :=
  law_SameRegion A B n m c d rs ss w h h' hn hm
end Go.Proofs.Ytokmojopajdbfaa
