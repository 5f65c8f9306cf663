/- The law RingBounds, walked. -/
import Derived.Test.YtokmojopajdbfaaRingBounds
namespace Go.Proofs.Ytokmojopajdbfaa
open Go Go.RowKit

theorem eqPt_same (x y : Int) (w : World) : Calls Try.prog 27 #[ptV x y, ptV x y] w fun e w' => e = .returned (.bool true) ∧ Over w w' := by
  have := eqPt_any x y x y w
  simpa only [beq_self_eq_true, Bool.and_self] using this

set_option maxHeartbeats 2000000 in
set_option maxRecDepth 100000 in
theorem law_RingBounds (A : Option Addr) (n c : Nat) (xs : List (Int × Int)) (w : World) (h : Pts w A n xs) (hm : (n : Int) ≤ 9223372036854775807) :
    Calls Try.prog 8 #[ringV A n c] w fun e w' => e = .returned (.bool true) ∧ Over w w' := by
  obtain ⟨x, y, z, t, cd, hv⟩ := rbV_form xs
  have s1 : ∀ (A : Option Addr) (n c : Nat) (w : World), Pts w A n xs → (n : Int) ≤ 1048576 → Calls Try.prog 30 #[ringV A n c] w fun e w' => e = .returned (.tuple #[ptV x y, ptV z t, .int .i64 cd]) ∧ Over w w' := fun A n c w h hn => hv ▸ specRingBounds_any A n c xs w h hn
  have s2 : ∀ (A : Option Addr) (n : Nat) (w : World), Pts w A n xs → (n : Int) ≤ 1048576 → Calls Try.prog 31 #[ringV A n n] w fun e w' => e = .returned (.tuple #[ptV x y, ptV z t, .int .i64 cd]) ∧ Over w w' := fun A n w h hn => hv ▸ RingBounds_any A n n xs w h hn (Nat.le_refl _)
  have S1 := Lib.hid s1
  have S2 := Lib.hid s2
  clear s1 s2 hv
  by_cases hn : (n : Int) ≤ 1048576
  · have hs := szV_small hn
    go_enter Try.func8, Try.ntmps8
    go_wp2_with fail
    refine (szRing_any _ _ _ _ _ (by omega) (by omega) hm).mono ?_
    clear hm
    rintro e w1 ⟨rfl, h1⟩
    rw [hs]
    obtain ⟨hc, hf⟩ := ocell h1
    go_wp2_with fail
    refine (toRing_any _ _ _ xs _ (h.over (by repeat (first | exact Over.refl _ | (with_reducible assumption) | refine Over.alloc_ ?_ _ | refine Over.trans ?_ (by with_reducible assumption) | refine Over.drew_ ?_ | refine Over.set_ ?_ (by simp; try omega) _))) hn).mono ?_
    rintro e w2 ⟨g2, rfl, -, hown2, h2⟩
    go_wp2_with fail
    refine (S1.out _ _ _ _ hown2.2 hn).mono ?_
    rintro e w3 ⟨rfl, h3⟩
    clear hc hf
    have hO3 := h1.trans (h2.trans h3)
    obtain ⟨hc, hf⟩ := ocell hO3
    have z3 : w.heap.size < w3.heap.size := Nat.lt_of_lt_of_le (by simp) hO3.size
    have z3' : w.heap.size < w3.heap.size + 1 := by omega
    go_wp2_with fail
    refine (toRing_any _ _ _ xs _ (h.over (by repeat (first | exact Over.refl _ | (with_reducible assumption) | refine Over.alloc_ ?_ _ | refine Over.trans ?_ (by with_reducible assumption) | refine Over.drew_ ?_ | refine Over.set_ ?_ (by simp; try omega) _))) hn).mono ?_
    rintro e w4 ⟨g4, rfl, -, hown4, h4⟩
    have z4 : w3.heap.size + 1 < w4.heap.size := Nat.lt_of_lt_of_le (by simp) h4.size
    go_wp2_with fail
    refine (S2.out _ _ _ (hown4.2.over (by repeat (first | exact Over.refl _ | (with_reducible assumption) | refine Over.alloc_ ?_ _ | refine Over.trans ?_ (by with_reducible assumption) | refine Over.drew_ ?_ | refine Over.set_ ?_ (by simp; try omega) _))) hn).mono ?_
    rintro e w5 ⟨rfl, h5⟩
    have hx : w5.cell? ⟨w4.heap.size, 0, none⟩ = some (.slice (some ⟨g4, 0, none⟩) n n) := ((ocell h5).1 _ _ (by simp)).trans (by go_simp)
    have hx' : w4.heap.size < w5.heap.size := by have := h5.size; simp at this; omega
    have ho5 : Own w5 g4 n xs := (hown4.over (Over.alloc _ _)).over h5
    have b4 : Box2 w5 w3.heap.size x y := (((Box2.new w3 x y _ _ rfl).over (Over.alloc _ _)).over h4).over ((Over.alloc _ _).trans h5)
    have b5 : Box2 w5 (w3.heap.size + 1) z t := ((Box2.new (w3.alloc _) z t _ _ (by simp)).over h4).over ((Over.alloc _ _).trans h5)
    have hO5 : Over (w.alloc (.cells #[.slice A n c] 30)) w5 := hO3.trans ((Over.alloc_ (Over.alloc _ _) _).trans ((Over.alloc_ h4 _).trans h5))
    clear hc hf hO3 h1 h2 h3 h4 h5 hown2 hown4 S1 S2
    obtain ⟨hc, hf⟩ := ocell hO5
    have hz0 : w.heap.size < w5.heap.size := by omega
    have B4 := Lib.hid b4
    have B5 := Lib.hid b5
    obtain ⟨z1, c1, c2, -, -⟩ := b4
    obtain ⟨z2, c3, c4, -, -⟩ := b5
    have z1' : w3.heap.size < w5.heap.size + 1 := by omega
    have z2' : w3.heap.size + 1 < w5.heap.size + 1 := by omega
    go_wp2_with fail
    refine (eqPt_same _ _ _).mono ?_
    rintro e w6 ⟨rfl, h6⟩
    have hI6 : Over w5 w6 := (Over.alloc_ (Over.alloc _ _) _).trans h6
    have b5 : Box2 w6 (w3.heap.size + 1) z t := B5.out.over hI6
    have b9 : Box2 w6 (w5.heap.size + 1) z t := (Box2.new (w5.alloc _) z t _ _ (by simp)).over h6
    have hx6 : w6.cell? ⟨w4.heap.size, 0, none⟩ = some (.slice (some ⟨g4, 0, none⟩) n n) := ((ocell hI6).1 _ _ hx').trans hx
    have hx6' : w4.heap.size < w6.heap.size := Nat.lt_of_lt_of_le hx' hI6.size
    have ho6 : Own w6 g4 n xs := ho5.over hI6
    have hO6 := hO5.trans hI6
    have hz6 : w.heap.size < w6.heap.size := Nat.lt_of_lt_of_le hz0 hI6.size
    clear hc hf hO5 h6 hI6 B4 B5 z1 z2 c1 c2 c3 c4 z1' z2' hx hx' ho5 hz0
    obtain ⟨hc, hf⟩ := ocell hO6
    obtain ⟨z1, c1, c2, -, -⟩ := b5
    obtain ⟨z2, c3, c4, -, -⟩ := b9
    go_wp2_with fail
    refine (eqPt_same _ _ _).mono ?_
    rintro e w7 ⟨rfl, h7⟩
    have hx : w7.cell? ⟨w4.heap.size, 0, none⟩ = some (.slice (some ⟨g4, 0, none⟩) n n) := ((ocell h7).1 _ _ hx6').trans hx6
    have hx' : w4.heap.size < w7.heap.size := Nat.lt_of_lt_of_le hx6' h7.size
    have ho7 : Own w7 g4 n xs := ho6.over h7
    have hO7 := hO6.trans h7
    have hz7 : w.heap.size < w7.heap.size := Nat.lt_of_lt_of_le hz6 h7.size
    clear hc hf hO6 h7 z1 z2 c1 c2 c3 c4 hx6 hx6' ho6 hz6
    obtain ⟨hc, hf⟩ := ocell hO7
    go_wp2
    refine wp_region_O (B := ob _) (Over.refl _) (by kernel_rfl) (by simp only [List.size_toArray, List.length_cons, List.length_nil, Nat.reduceAdd]; rfl) (fun hBW => ?_)
    refine wpAnyO_take (i := 0) (v := _) (by assumption) (by simp only [List.getElem?_toArray, List.getElem?_cons_zero]; rfl) (by kernel_rfl) (by kernel_rfl) (by kernel_rfl) (by exact fun _ _ _ h => h) (by kernel_rfl) (fun wx hS => by (obtain ⟨hc, hf⟩ := ocell hS; go_simp; exact ⟨rfl, Over.refl _⟩)) ?_
    simp only [Act.put, List.setIfInBounds_toArray, List.set_cons_zero, List.set_cons_succ]
    refine wpAnyO_take (i := 1) (v := _) (by assumption) (by simp only [List.getElem?_toArray, List.getElem?_cons_zero, List.getElem?_cons_succ]; rfl) (by kernel_rfl) (by kernel_rfl) (by kernel_rfl) (by exact fun _ _ _ h => h) (by kernel_rfl) (fun wx hS => by (obtain ⟨hc, hf⟩ := ocell hS; go_simp; exact ⟨rfl, Over.refl _⟩)) ?_
    simp only [Act.put, List.setIfInBounds_toArray, List.set_cons_zero, List.set_cons_succ]
    refine wpAnyO_one (i := 2) (by simp only [List.getElem?_toArray, List.getElem?_cons_zero, List.getElem?_cons_succ]; rfl) (by kernel_rfl) (by kernel_rfl) (fun w8 h8 K hK => ?_)
    go_step
    refine (toRing_any _ _ _ xs _ (h.over (by repeat (first | exact Over.refl _ | (with_reducible assumption) | refine Over.alloc_ ?_ _ | refine Over.trans ?_ (by with_reducible assumption) | refine Over.drew_ ?_ | refine Over.set_ ?_ (by simp; try omega) _))) hn).mono ?_
    rintro e w9 ⟨g9, rfl, -, hown9, h9⟩
    dsimp only
    refine hK.out _ _ (by repeat (first | exact Over.refl _ | (with_reducible assumption) | refine Over.alloc_ ?_ _ | refine Over.trans ?_ (by with_reducible assumption) | refine Over.drew_ ?_ | refine Over.set_ ?_ (by simp; try omega) _)) (fun hB => ?_)
    clear hK K
    refine wpAnyO_one (i := 3) (by simp only [List.getElem?_toArray, List.getElem?_cons_zero, List.getElem?_cons_succ]; rfl) (by kernel_rfl) (by kernel_rfl) (fun w10 h10 K hK => ?_)
    go_step
    refine (eqRing_same _ _ _ _ _ xs _ (ho7.2.over (by repeat (first | exact Over.refl _ | (with_reducible assumption) | refine Over.alloc_ ?_ _ | refine Over.trans ?_ (by with_reducible assumption) | refine Over.drew_ ?_ | refine Over.set_ ?_ (by simp; try omega) _))) (hown9.2.over (by repeat (first | exact Over.refl _ | (with_reducible assumption) | refine Over.alloc_ ?_ _ | refine Over.trans ?_ (by with_reducible assumption) | refine Over.drew_ ?_ | refine Over.set_ ?_ (by simp; try omega) _))) hn).mono ?_
    rintro e w11 ⟨rfl, h11⟩
    dsimp only
    refine hK.out _ _ (by repeat (first | exact Over.refl _ | (with_reducible assumption) | refine Over.alloc_ ?_ _ | refine Over.trans ?_ (by with_reducible assumption) | refine Over.drew_ ?_ | refine Over.set_ ?_ (by simp; try omega) _)) (fun hB => ?_)
    clear hK K
    refine wpAnyO_take (i := 4) (v := _) (by assumption) (by simp only [List.getElem?_toArray, List.getElem?_cons_zero, List.getElem?_cons_succ]; rfl) (by kernel_rfl) (by kernel_rfl) (by kernel_rfl) (by exact fun _ _ _ h => h) (by kernel_rfl) (fun wx hS => by (go_simp; exact ⟨rfl, Over.refl _⟩)) ?_
    simp only [Act.put, List.setIfInBounds_toArray, List.set_cons_zero, List.set_cons_succ]
    refine wpAnyO_done (by kernel_rfl) (fun w12 h12 => ?_) _
    try clear hBW
    go_wp2
    go_ret
    exact ⟨rfl, (by repeat (first | exact Over.refl _ | (with_reducible assumption) | refine Over.alloc_ ?_ _ | refine Over.trans ?_ (by with_reducible assumption) | refine Over.drew_ ?_ | refine Over.set_ ?_ (by simp; try omega) _))⟩
  · have hs := szV_big hn
    go_enter Try.func8, Try.ntmps8
    go_wp2_with (go_at_call 18; refine (szRing_any _ _ _ _ _ (by omega) (by omega) hm).mono ?_; rintro e wx ⟨rfl, hb⟩; (first | (replace hO := Over.trans hO hb) | (replace hO := Over.trans (Over.alloc_ hO _) hb) | (replace hO := Over.trans (Over.alloc_ (Over.alloc_ hO _) _) hb) | (have hO := hb)); (try clear hc hf); obtain ⟨hc, hf⟩ := ocell hO; (try clear hb); (try clear hz0); have hz0 : w.heap.size < wx.heap.size := Nat.lt_of_lt_of_le (by simp <;> omega) (Over.size hO); rw [hs])
    go_ret
    exact ⟨rfl, (by repeat (first | exact Over.refl _ | (with_reducible assumption) | refine Over.alloc_ ?_ _ | refine Over.trans ?_ (by with_reducible assumption) | refine Over.drew_ ?_ | refine Over.set_ ?_ (by simp; try omega) _))⟩
end Go.Proofs.Ytokmojopajdbfaa
