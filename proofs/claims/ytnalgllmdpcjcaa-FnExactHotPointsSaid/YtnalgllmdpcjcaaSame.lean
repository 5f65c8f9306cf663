/- Regions that are the same. -/
import Derived.Test.YtnalgllmdpcjcaaRegion
namespace Go.Proofs.Ytnalgllmdpcjcaa
open Go Go.RowKit

set_option maxHeartbeats 400000 in
set_option maxRecDepth 100000 in
theorem eqRingS_same (A B : Option Addr) (n c d : Nat) (rs : List Ring_) (w : World) (h : Rings w A n rs) (h' : Rings w B n rs) (ht : (total rs : Int) ≤ 1048576) :
    Calls Try.prog 77 #[.slice A n c, .slice B n d] w fun e w' => e = .returned (.bool true) ∧ Over w w' := by
  have hlen := Lib.hid h.1
  have hn : (n : Int) ≤ 1048576 := by have := hlen.out; unfold total at ht; omega
  have hq : ((n : Int) != (n : Int)) = false := by simp
  have Ht := Lib.hid ht
  clear ht
  go_enter Try.func77, Try.ntmps77
  go_wp2
  go_loopw [5] (fun i wr => ∃ k : Nat, k ≤ n ∧ i = .int .i64 k ∧ Over w wr) (fun i _ => n - (intOf i).toNat)
  case atStart => exact ⟨0, Nat.zero_le _, rfl, Over.refl _⟩
  case round =>
    rename_i wr
    obtain ⟨k, hk, rfl, hb⟩ := hrel
    by_cases hlt : k < n
    · obtain ⟨b, o, Ak, ck, rfl, hbB, hcell, hpts, hmax⟩ := (h.over hb).at_ hlt
      obtain ⟨b', o', Ak', ck', rfl, hbB', hcell', hpts', _⟩ := (h'.over hb).at_ hlt
      have hr : ((rg rs k).length : Int) ≤ 1048576 := by have := Ht.out; have := rg_le_total rs (k := k) (by rw [hlen.out]; exact hlt); omega
      have HP := Lib.hid (And.intro hpts hpts')
      clear h h' hmax hpts hpts'
      go_wp2
      refine wp_region_O (B := ob _) (Over.refl _) (by kernel_rfl) (by simp only [List.size_toArray, List.length_cons, List.length_nil, Nat.reduceAdd]; rfl) (fun hBW => ?_)
      refine wpAnyO_take (i := 0) (v := _) (by assumption) (by simp only [List.getElem?_toArray, List.getElem?_cons_zero]; rfl) (by kernel_rfl) (by kernel_rfl) (by kernel_rfl) (by exact fun _ _ _ h => h) (by kernel_rfl) (fun wx hS => by (obtain ⟨hc, hf⟩ := ocell hS; clear hS; go_simp; (try go_bits); exact ⟨rfl, Over.refl _⟩)) ?_
      simp only [Act.put, List.setIfInBounds_toArray, List.set_cons_zero, List.set_cons_succ]
      refine wpAnyO_take (i := 1) (v := _) (by assumption) (by simp only [List.getElem?_toArray, List.getElem?_cons_zero, List.getElem?_cons_succ]; rfl) (by kernel_rfl) (by kernel_rfl) (by kernel_rfl) (by exact fun _ _ _ h => h) (by kernel_rfl) (fun wx hS => by (obtain ⟨hc, hf⟩ := ocell hS; clear hS; go_simp; (try go_bits); exact ⟨rfl, Over.refl _⟩)) ?_
      simp only [Act.put, List.setIfInBounds_toArray, List.set_cons_zero, List.set_cons_succ]
      refine wpAnyO_take (i := 2) (v := _) (by assumption) (by simp only [List.getElem?_toArray, List.getElem?_cons_zero, List.getElem?_cons_succ]; rfl) (by kernel_rfl) (by kernel_rfl) (by kernel_rfl) (by exact fun _ _ _ h => h) (by kernel_rfl) (fun wx hS => by (obtain ⟨hc, hf⟩ := ocell hS; clear hS; go_simp; (try go_bits); exact ⟨rfl, Over.refl _⟩)) ?_
      simp only [Act.put, List.setIfInBounds_toArray, List.set_cons_zero, List.set_cons_succ]
      refine wpAnyO_take (i := 3) (v := _) (by assumption) (by simp only [List.getElem?_toArray, List.getElem?_cons_zero, List.getElem?_cons_succ]; rfl) (by kernel_rfl) (by kernel_rfl) (by kernel_rfl) (by exact fun _ _ _ h => h) (by kernel_rfl) (fun wx hS => by (obtain ⟨hc, hf⟩ := ocell hS; clear hS; go_simp; (try go_bits); exact ⟨rfl, Over.refl _⟩)) ?_
      simp only [Act.put, List.setIfInBounds_toArray, List.set_cons_zero, List.set_cons_succ]
      refine wpAnyO_take (i := 4) (v := _) (by assumption) (by simp only [List.getElem?_toArray, List.getElem?_cons_zero, List.getElem?_cons_succ]; rfl) (by kernel_rfl) (by kernel_rfl) (by kernel_rfl) (by exact fun _ _ _ h => h) (by kernel_rfl) (fun wx hS => by (obtain ⟨hc, hf⟩ := ocell hS; clear hS; go_simp; (try go_bits); exact ⟨rfl, Over.refl _⟩)) ?_
      simp only [Act.put, List.setIfInBounds_toArray, List.set_cons_zero, List.set_cons_succ]
      refine wpAnyO_take (i := 5) (v := _) (by assumption) (by simp only [List.getElem?_toArray, List.getElem?_cons_zero, List.getElem?_cons_succ]; rfl) (by kernel_rfl) (by kernel_rfl) (by kernel_rfl) (by exact fun _ _ _ h => h) (by kernel_rfl) (fun wx hS => by (obtain ⟨hc, hf⟩ := ocell hS; clear hS; go_simp; (try go_bits); exact ⟨rfl, Over.refl _⟩)) ?_
      simp only [Act.put, List.setIfInBounds_toArray, List.set_cons_zero, List.set_cons_succ]
      refine wpAnyO_take (i := 6) (v := _) (by assumption) (by simp only [List.getElem?_toArray, List.getElem?_cons_zero, List.getElem?_cons_succ]; rfl) (by kernel_rfl) (by kernel_rfl) (by kernel_rfl) (by exact fun _ _ _ h => h) (by kernel_rfl) (fun wx hS => by (obtain ⟨hc, hf⟩ := ocell hS; clear hS; go_simp; (try go_bits); exact ⟨rfl, Over.refl _⟩)) ?_
      simp only [Act.put, List.setIfInBounds_toArray, List.set_cons_zero, List.set_cons_succ]
      refine wpAnyO_take (i := 7) (v := _) (by assumption) (by simp only [List.getElem?_toArray, List.getElem?_cons_zero, List.getElem?_cons_succ]; rfl) (by kernel_rfl) (by kernel_rfl) (by kernel_rfl) (by exact fun _ _ _ h => h) (by kernel_rfl) (fun wx hS => by (obtain ⟨hc, hf⟩ := ocell hS; clear hS; go_simp; (try go_bits); exact ⟨rfl, Over.refl _⟩)) ?_
      simp only [Act.put, List.setIfInBounds_toArray, List.set_cons_zero, List.set_cons_succ]
      refine wpAnyO_take (i := 8) (v := _) (by assumption) (by simp only [List.getElem?_toArray, List.getElem?_cons_zero, List.getElem?_cons_succ]; rfl) (by kernel_rfl) (by kernel_rfl) (by kernel_rfl) (by exact fun _ _ _ h => h) (by kernel_rfl) (fun wx hS => by (go_simp; refine (eqRing_same _ _ _ _ _ _ _ (HP.out.1.over (by first | exact hS | exact Over.trans hS (Over.refl _))) (HP.out.2.over hS) hr).mono ?_; rintro e w1 ⟨rfl, hb1⟩; exact ⟨rfl, hb1⟩)) ?_
      simp only [Act.put, List.setIfInBounds_toArray, List.set_cons_zero, List.set_cons_succ]
      refine wpAnyO_take (i := 9) (v := _) (by assumption) (by simp only [List.getElem?_toArray, List.getElem?_cons_zero, List.getElem?_cons_succ]; rfl) (by kernel_rfl) (by kernel_rfl) (by kernel_rfl) (by exact fun _ _ _ h => h) (by kernel_rfl) (fun wx hS => by (obtain ⟨hc, hf⟩ := ocell hS; clear hS; go_simp; (try go_bits); exact ⟨rfl, Over.refl _⟩)) ?_
      simp only [Act.put, List.setIfInBounds_toArray, List.set_cons_zero, List.set_cons_succ]
      refine wpAnyO_done (by kernel_rfl) (fun w2 h2 => ?_) _
      try clear hBW
      go_wp2
      go_roundw
      case rel => exact ⟨k + 1, by omega, by go_num, (by repeat (first | exact Over.refl _ | (with_reducible assumption) | refine Over.alloc_ ?_ _ | refine Over.trans ?_ (by with_reducible assumption) | refine Over.drew_ ?_ | refine Over.set_ ?_ (by simp; try omega) _))⟩
      case measure => simp [intOf]; omega
    · clear h h'
      go_wp2
      go_ret
      exact ⟨rfl, (by repeat (first | exact Over.refl _ | (with_reducible assumption) | refine Over.alloc_ ?_ _ | refine Over.trans ?_ (by with_reducible assumption) | refine Over.drew_ ?_ | refine Over.set_ ?_ (by simp; try omega) _))⟩

set_option maxHeartbeats 400000 in
theorem eqRegion_same (A B : Option Addr) (n c d : Nat) (rs : List Ring_) (w : World) (h : Rings w A n rs) (h' : Rings w B n rs) (ht : (total rs : Int) ≤ 1048576) :
    Calls Try.prog 30 #[regV A n c, regV B n d] w fun e w' => e = .returned (.bool true) ∧ Over w w' := by
  go_enter Try.func30, Try.ntmps30
  go_wp2_with (go_at_call 77; refine (eqRingS_same _ _ _ _ _ rs _ (h.over (by repeat (first | exact Over.refl _ | (with_reducible assumption) | refine Over.alloc_ ?_ _ | refine Over.trans ?_ (by with_reducible assumption) | refine Over.drew_ ?_ | refine Over.set_ ?_ (by simp; try omega) _))) (h'.over (by repeat (first | exact Over.refl _ | (with_reducible assumption) | refine Over.alloc_ ?_ _ | refine Over.trans ?_ (by with_reducible assumption) | refine Over.drew_ ?_ | refine Over.set_ ?_ (by simp; try omega) _))) ht).mono ?_; rintro e w1 ⟨rfl, hb1⟩)
  go_ret
  exact ⟨rfl, (by repeat (first | exact Over.refl _ | (with_reducible assumption) | refine Over.alloc_ ?_ _ | refine Over.trans ?_ (by with_reducible assumption) | refine Over.drew_ ?_ | refine Over.set_ ?_ (by simp; try omega) _))⟩

theorem pts_ext {xs ys : Ring_} (h : xs.length = ys.length) (hp : ∀ j, j < xs.length → px xs j = px ys j ∧ py xs j = py ys j) : xs = ys := by
  refine List.ext_getElem h fun j h1 h2 => ?_
  rw [at_p h1, at_p h2, (hp j h1).1, (hp j h1).2]
theorem rings_ext {rs ss : List Ring_} (h : rs.length = ss.length) (hp : ∀ j, j < rs.length → rg rs j = rg ss j) : rs = ss := by
  refine List.ext_getElem h fun j h1 h2 => ?_
  rw [at_r h1, at_r h2, hp j h1]

end Go.Proofs.Ytnalgllmdpcjcaa
