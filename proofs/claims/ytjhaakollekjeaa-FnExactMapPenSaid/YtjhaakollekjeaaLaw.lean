/- Regions that are the same; what laws lean on. -/
import Derived.Test.YtjhaakollekjeaaRegion
import Derived.Test.YtjhaakollekjeaaDat
namespace Go.Proofs.Ytjhaakollekjeaa
open Go Go.RowKit
set_option linter.unusedVariables false

theorem pts_ext {xs ys : Ring_} (h : xs.length = ys.length) (hp : ∀ j, j < xs.length → px xs j = px ys j ∧ py xs j = py ys j) : xs = ys := by
 refine List.ext_getElem h fun j h1 h2 => ?_
 rw [at_p h1, at_p h2, (hp j h1).1, (hp j h1).2]
set_option maxHeartbeats 1000000 in
set_option maxRecDepth 100000 in
theorem l13Same_any (A B : Option Addr) (n m c d : Nat) (xs ys : Ring_) (w : World) (h : Pts w A n xs) (h' : Pts w B m ys) (hn : (n : Int) ≤ 1048576) (hm : (m : Int) ≤ 1048576) :
  Calls Try.prog 85 #[.slice A n c, .slice B m d] w fun e w' => e = .returned (.bool (decide (xs = ys))) ∧ Over w w' := by
 have hl := Lib.hid h.1
 have hl' := Lib.hid h'.1
 by_cases hnm : n = m
 ·subst hnm
  have hq : ((n : Int) != (n : Int)) = false := by simp
  go_enter Try.func85, Try.ntmps85
  go_wp2
  go_loopw [5] (fun i wr => ∃ k : Nat, k ≤ n ∧ i = .int .i64 k ∧ Over w wr ∧ Hid (∀ j, j < k → px xs j = px ys j ∧ py xs j = py ys j)) (fun i _ => n - (intOf i).toNat)
  case atStart => exact ⟨0, Nat.zero_le _, rfl, Over.refl _, fun j hj => absurd hj (by omega)⟩
  case round =>
   rename_i wr
   obtain ⟨k, hk, rfl, hb, hall⟩ := hrel
   by_cases hlt : k < n
   ·obtain ⟨b, o, rfl, hbB, hc1, hc2⟩ := (h.over hb).at_ hlt
    obtain ⟨b', o', rfl, hbB', hc1', hc2'⟩ := (h'.over hb).at_ hlt
    have Hb := Lib.hid hb
    have hs : Hid (px xs k = px ys k ∧ py xs k = py ys k → ∀ j, j < k + 1 → px xs j = px ys j ∧ py xs j = py ys j) := by
     intro h j hj
     by_cases hjk : j = k
     ·subst hjk; exact h
     ·exact hall.out j (by omega)
    have hd : Hid (¬ (px xs k = px ys k ∧ py xs k = py ys k) → decide (xs = ys) = false) := fun h => decide_eq_false (fun e => h (by rw [e]; exact ⟨rfl, rfl⟩))
    clear h h' hb hall
    generalize px xs k = x at hc1 hs hd
    generalize py xs k = y at hc2 hs hd
    generalize px ys k = x' at hc1' hs hd
    generalize py ys k = y' at hc2' hs hd
    have key : (x = x' ∧ y = y') ∨ (¬ x = x') ∨ (x = x' ∧ ¬ y = y') := by omega
    rcases key with ⟨rfl, rfl⟩ | hne | ⟨rfl, hne⟩
    ·have hq2 : (x == x) = true := by simp
     have hq3 : (y == y) = true := by simp
     have hs2 := Lib.hid (hs.out ⟨rfl, rfl⟩)
     clear hs
     go_wp2
     refine wp_region_O (B := ob _) (Over.refl _) (by kernel_rfl) (by simp only [List.size_toArray, List.length_cons, List.length_nil, Nat.reduceAdd]; rfl) (fun hBW => ?_)
     refine wpAnyO_take (i := 0) (v := _) (by assumption) (by simp only [xa,xb]; rfl) (by kernel_rfl) (by kernel_rfl) (by kernel_rfl) (by exact fun _ _ _ h => h) (by kernel_rfl) (fun wx hS => by (obtain ⟨hc, hf⟩ := ocell hS; clear hS; go_simp; (try go_bits); exact ⟨rfl, Over.refl _⟩)) ?_
     simp only [Act.put,xd,yc,yd]
     refine wpAnyO_take (i := 1) (v := _) (by assumption) (by simp only [xa,xb,xc]; rfl) (by kernel_rfl) (by kernel_rfl) (by kernel_rfl) (by exact fun _ _ _ h => h) (by kernel_rfl) (fun wx hS => by (obtain ⟨hc, hf⟩ := ocell hS; clear hS; go_simp; (try go_bits); exact ⟨rfl, Over.refl _⟩)) ?_
     simp only [Act.put,xd,yc,yd]
     refine wpAnyO_take (i := 2) (v := _) (by assumption) (by simp only [xa,xb,xc]; rfl) (by kernel_rfl) (by kernel_rfl) (by kernel_rfl) (by exact fun _ _ _ h => h) (by kernel_rfl) (fun wx hS => by (obtain ⟨hc, hf⟩ := ocell hS; clear hS; go_simp; (try go_bits); exact ⟨rfl, Over.refl _⟩)) ?_
     simp only [Act.put,xd,yc,yd]
     refine wpAnyO_take (i := 3) (v := _) (by assumption) (by simp only [xa,xb,xc]; rfl) (by kernel_rfl) (by kernel_rfl) (by kernel_rfl) (by exact fun _ _ _ h => h) (by kernel_rfl) (fun wx hS => by (obtain ⟨hc, hf⟩ := ocell hS; clear hS; go_simp; (try go_bits); exact ⟨rfl, Over.refl _⟩)) ?_
     simp only [Act.put,xd,yc,yd]
     refine wpAnyO_take (i := 4) (v := _) (by assumption) (by simp only [xa,xb,xc]; rfl) (by kernel_rfl) (by kernel_rfl) (by kernel_rfl) (by exact fun _ _ _ h => h) (by kernel_rfl) (fun wx hS => by (obtain ⟨hc, hf⟩ := ocell hS; clear hS; go_simp; (try go_bits); exact ⟨rfl, Over.refl _⟩)) ?_
     simp only [Act.put,xd,yc,yd]
     refine wpAnyO_take (i := 5) (v := _) (by assumption) (by simp only [xa,xb,xc]; rfl) (by kernel_rfl) (by kernel_rfl) (by kernel_rfl) (by exact fun _ _ _ h => h) (by kernel_rfl) (fun wx hS => by (obtain ⟨hc, hf⟩ := ocell hS; clear hS; go_simp; (try go_bits); exact ⟨rfl, Over.refl _⟩)) ?_
     simp only [Act.put,xd,yc,yd]
     refine wpAnyO_take (i := 6) (v := _) (by assumption) (by simp only [xa,xb,xc]; rfl) (by kernel_rfl) (by kernel_rfl) (by kernel_rfl) (by exact fun _ _ _ h => h) (by kernel_rfl) (fun wx hS => by (obtain ⟨hc, hf⟩ := ocell hS; clear hS; go_simp; (try go_bits); exact ⟨rfl, Over.refl _⟩)) ?_
     simp only [Act.put,xd,yc,yd]
     refine wpAnyO_take (i := 7) (v := _) (by assumption) (by simp only [xa,xb,xc]; rfl) (by kernel_rfl) (by kernel_rfl) (by kernel_rfl) (by exact fun _ _ _ h => h) (by kernel_rfl) (fun wx hS => by (obtain ⟨hc, hf⟩ := ocell hS; clear hS; go_simp; (try go_bits); exact ⟨rfl, Over.refl _⟩)) ?_
     simp only [Act.put,xd,yc,yd]
     refine wpAnyO_take (i := 8) (v := _) (by assumption) (by simp only [xa,xb,xc]; rfl) (by kernel_rfl) (by kernel_rfl) (by kernel_rfl) (by exact fun _ _ _ h => h) (by kernel_rfl) (fun wx hS => by (obtain ⟨hc, hf⟩ := ocell hS; clear hS; go_simp; (try go_bits); exact ⟨rfl, Over.refl _⟩)) ?_
     simp only [Act.put,xd,yc,yd]
     refine wpAnyO_done (by kernel_rfl) (fun w2 h2 => ?_) _
     try clear hBW
     go_wp2
     go_roundw
     case rel => exact ⟨k + 1, by omega, by go_num, Hb.out.trans h2, hs2.out⟩
     case measure => simp [intOf]; omega
    all_goals
     have hq := Lib.hid (hd.out (by omega))
     go_wp2
     refine wp_region_O (B := ob _) (Over.refl _) (by kernel_rfl) (by simp only [List.size_toArray, List.length_cons, List.length_nil, Nat.reduceAdd]; rfl) (fun hBW => ?_)
     refine wpAnyO_take (i := 0) (v := _) (by assumption) (by simp only [xa,xb]; rfl) (by kernel_rfl) (by kernel_rfl) (by kernel_rfl) (by exact fun _ _ _ h => h) (by kernel_rfl) (fun wx hS => by (obtain ⟨hc, hf⟩ := ocell hS; clear hS; go_simp; (try go_bits); exact ⟨rfl, Over.refl _⟩)) ?_
     simp only [Act.put,xd,yc,yd]
     refine wpAnyO_take (i := 1) (v := _) (by assumption) (by simp only [xa,xb,xc]; rfl) (by kernel_rfl) (by kernel_rfl) (by kernel_rfl) (by exact fun _ _ _ h => h) (by kernel_rfl) (fun wx hS => by (obtain ⟨hc, hf⟩ := ocell hS; clear hS; go_simp; (try go_bits); exact ⟨rfl, Over.refl _⟩)) ?_
     simp only [Act.put,xd,yc,yd]
     refine wpAnyO_take (i := 2) (v := _) (by assumption) (by simp only [xa,xb,xc]; rfl) (by kernel_rfl) (by kernel_rfl) (by kernel_rfl) (by exact fun _ _ _ h => h) (by kernel_rfl) (fun wx hS => by (obtain ⟨hc, hf⟩ := ocell hS; clear hS; go_simp; (try go_bits); exact ⟨rfl, Over.refl _⟩)) ?_
     simp only [Act.put,xd,yc,yd]
     refine wpAnyO_take (i := 3) (v := _) (by assumption) (by simp only [xa,xb,xc]; rfl) (by kernel_rfl) (by kernel_rfl) (by kernel_rfl) (by exact fun _ _ _ h => h) (by kernel_rfl) (fun wx hS => by (obtain ⟨hc, hf⟩ := ocell hS; clear hS; go_simp; (try go_bits); exact ⟨rfl, Over.refl _⟩)) ?_
     simp only [Act.put,xd,yc,yd]
     refine wpAnyO_take (i := 4) (v := _) (by assumption) (by simp only [xa,xb,xc]; rfl) (by kernel_rfl) (by kernel_rfl) (by kernel_rfl) (by exact fun _ _ _ h => h) (by kernel_rfl) (fun wx hS => by (obtain ⟨hc, hf⟩ := ocell hS; clear hS; go_simp; (try go_bits); exact ⟨rfl, Over.refl _⟩)) ?_
     simp only [Act.put,xd,yc,yd]
     refine wpAnyO_take (i := 5) (v := _) (by assumption) (by simp only [xa,xb,xc]; rfl) (by kernel_rfl) (by kernel_rfl) (by kernel_rfl) (by exact fun _ _ _ h => h) (by kernel_rfl) (fun wx hS => by (obtain ⟨hc, hf⟩ := ocell hS; clear hS; go_simp; (try go_bits); exact ⟨rfl, Over.refl _⟩)) ?_
     simp only [Act.put,xd,yc,yd]
     refine wpAnyO_take (i := 6) (v := _) (by assumption) (by simp only [xa,xb,xc]; rfl) (by kernel_rfl) (by kernel_rfl) (by kernel_rfl) (by exact fun _ _ _ h => h) (by kernel_rfl) (fun wx hS => by (obtain ⟨hc, hf⟩ := ocell hS; clear hS; go_simp; (try go_bits); exact ⟨rfl, Over.refl _⟩)) ?_
     simp only [Act.put,xd,yc,yd]
     refine wpAnyO_take (i := 7) (v := _) (by assumption) (by simp only [xa,xb,xc]; rfl) (by kernel_rfl) (by kernel_rfl) (by kernel_rfl) (by exact fun _ _ _ h => h) (by kernel_rfl) (fun wx hS => by (obtain ⟨hc, hf⟩ := ocell hS; clear hS; go_simp; (try go_bits); exact ⟨rfl, Over.refl _⟩)) ?_
     simp only [Act.put,xd,yc,yd]
     refine wpAnyO_take (i := 8) (v := _) (by assumption) (by simp only [xa,xb,xc]; rfl) (by kernel_rfl) (by kernel_rfl) (by kernel_rfl) (by exact fun _ _ _ h => h) (by kernel_rfl) (fun wx hS => by (obtain ⟨hc, hf⟩ := ocell hS; clear hS; go_simp; (try go_bits); exact ⟨rfl, Over.refl _⟩)) ?_
     simp only [Act.put,xd,yc,yd]
     refine wpAnyO_done (by kernel_rfl) (fun w2 h2 => ?_) _
     try clear hBW
     go_wp2
     go_ret
     exact ⟨by rw [hq.out]; rfl, Hb.out.trans h2⟩
   ·have hkn : k = n := by omega
    have hq : Hid (decide (xs = ys) = true) := decide_eq_true (pts_ext (by rw [hl.out, hl'.out]) (fun j hj => hall.out j (by rw [hl.out] at hj; omega)))
    clear h h' hall hl hl'
    go_wp2
    go_ret
    exact ⟨by rw [hq.out]; rfl, hb⟩
 ·have hq : ((n : Int) != (m : Int)) = true := by simp; omega
  have hv : Hid (decide (xs = ys) = false) := decide_eq_false (fun e => hnm (by rw [← hl.out, ← hl'.out, e]))
  clear h h' hl hl'
  go_enter Try.func85, Try.ntmps85
  go_wp2
  go_ret
  exact ⟨by rw [hv.out]; rfl, (by repeat (first | exact Over.refl _ | (with_reducible assumption) | refine Over.alloc_ ?_ _ | refine Over.trans ?_ (by with_reducible assumption) | refine Over.drew_ ?_ | refine Over.set_ ?_ (by simp; try omega) _))⟩
set_option maxHeartbeats 1000000 in
set_option maxRecDepth 100000 in
theorem slEqual_any (A B : Option Addr) (n m c d : Nat) (xs ys : Ring_) (w : World) (h : Pts w A n xs) (h' : Pts w B m ys) (hn : (n : Int) ≤ 1048576) (hm : (m : Int) ≤ 1048576) :
  Calls Try.prog 93 #[.slice A n c, .slice B m d] w fun e w' => e = .returned (.bool (decide (xs = ys))) ∧ Over w w' := by
 have hl := Lib.hid h.1
 have hl' := Lib.hid h'.1
 by_cases hnm : n = m
 ·subst hnm
  have hq : ((n : Int) != (n : Int)) = false := by simp
  go_enter Try.func93, Try.ntmps93
  go_wp2
  go_loopw [13] (fun i wr => ∃ k : Nat, k ≤ n ∧ i = .int .i64 k ∧ Over w wr ∧ Hid (∀ j, j < k → px xs j = px ys j ∧ py xs j = py ys j)) (fun i _ => n - (intOf i).toNat)
  case atStart => exact ⟨0, Nat.zero_le _, rfl, Over.refl _, fun j hj => absurd hj (by omega)⟩
  case round =>
   rename_i wr
   obtain ⟨k, hk, rfl, hb, hall⟩ := hrel
   by_cases hlt : k < n
   ·obtain ⟨b, o, rfl, hbB, hc1, hc2⟩ := (h.over hb).at_ hlt
    obtain ⟨b', o', rfl, hbB', hc1', hc2'⟩ := (h'.over hb).at_ hlt
    have Hb := Lib.hid hb
    have hs : Hid (px xs k = px ys k ∧ py xs k = py ys k → ∀ j, j < k + 1 → px xs j = px ys j ∧ py xs j = py ys j) := by
     intro h j hj
     by_cases hjk : j = k
     ·subst hjk; exact h
     ·exact hall.out j (by omega)
    have hd : Hid (¬ (px xs k = px ys k ∧ py xs k = py ys k) → decide (xs = ys) = false) := fun h => decide_eq_false (fun e => h (by rw [e]; exact ⟨rfl, rfl⟩))
    clear h h' hb hall
    generalize px xs k = x at hc1 hs hd
    generalize py xs k = y at hc2 hs hd
    generalize px ys k = x' at hc1' hs hd
    generalize py ys k = y' at hc2' hs hd
    have key : (x = x' ∧ y = y') ∨ (¬ x = x') ∨ (x = x' ∧ ¬ y = y') := by omega
    rcases key with ⟨rfl, rfl⟩ | hne | ⟨rfl, hne⟩
    ·have hq2 : (x == x) = true := by simp
     have hq3 : (y == y) = true := by simp
     have hs2 := Lib.hid (hs.out ⟨rfl, rfl⟩)
     clear hs
     go_wp2
     refine wp_region_O (B := ob _) (Over.refl _) (by kernel_rfl) (by simp only [List.size_toArray, List.length_cons, List.length_nil, Nat.reduceAdd]; rfl) (fun hBW => ?_)
     refine wpAnyO_take (i := 0) (v := _) (by assumption) (by simp only [xa,xb]; rfl) (by kernel_rfl) (by kernel_rfl) (by kernel_rfl) (by exact fun _ _ _ h => h) (by kernel_rfl) (fun wx hS => by (obtain ⟨hc, hf⟩ := ocell hS; clear hS; go_simp; (try go_bits); exact ⟨rfl, Over.refl _⟩)) ?_
     simp only [Act.put,xd,yc,yd]
     refine wpAnyO_take (i := 1) (v := _) (by assumption) (by simp only [xa,xb,xc]; rfl) (by kernel_rfl) (by kernel_rfl) (by kernel_rfl) (by exact fun _ _ _ h => h) (by kernel_rfl) (fun wx hS => by (obtain ⟨hc, hf⟩ := ocell hS; clear hS; go_simp; (try go_bits); exact ⟨rfl, Over.refl _⟩)) ?_
     simp only [Act.put,xd,yc,yd]
     refine wpAnyO_take (i := 2) (v := _) (by assumption) (by simp only [xa,xb,xc]; rfl) (by kernel_rfl) (by kernel_rfl) (by kernel_rfl) (by exact fun _ _ _ h => h) (by kernel_rfl) (fun wx hS => by (obtain ⟨hc, hf⟩ := ocell hS; clear hS; go_simp; (try go_bits); exact ⟨rfl, Over.refl _⟩)) ?_
     simp only [Act.put,xd,yc,yd]
     refine wpAnyO_take (i := 3) (v := _) (by assumption) (by simp only [xa,xb,xc]; rfl) (by kernel_rfl) (by kernel_rfl) (by kernel_rfl) (by exact fun _ _ _ h => h) (by kernel_rfl) (fun wx hS => by (obtain ⟨hc, hf⟩ := ocell hS; clear hS; go_simp; (try go_bits); exact ⟨rfl, Over.refl _⟩)) ?_
     simp only [Act.put,xd,yc,yd]
     refine wpAnyO_take (i := 4) (v := _) (by assumption) (by simp only [xa,xb,xc]; rfl) (by kernel_rfl) (by kernel_rfl) (by kernel_rfl) (by exact fun _ _ _ h => h) (by kernel_rfl) (fun wx hS => by (obtain ⟨hc, hf⟩ := ocell hS; clear hS; go_simp; (try go_bits); exact ⟨rfl, Over.refl _⟩)) ?_
     simp only [Act.put,xd,yc,yd]
     refine wpAnyO_take (i := 5) (v := _) (by assumption) (by simp only [xa,xb,xc]; rfl) (by kernel_rfl) (by kernel_rfl) (by kernel_rfl) (by exact fun _ _ _ h => h) (by kernel_rfl) (fun wx hS => by (obtain ⟨hc, hf⟩ := ocell hS; clear hS; go_simp; (try go_bits); exact ⟨rfl, Over.refl _⟩)) ?_
     simp only [Act.put,xd,yc,yd]
     refine wpAnyO_take (i := 6) (v := _) (by assumption) (by simp only [xa,xb,xc]; rfl) (by kernel_rfl) (by kernel_rfl) (by kernel_rfl) (by exact fun _ _ _ h => h) (by kernel_rfl) (fun wx hS => by (obtain ⟨hc, hf⟩ := ocell hS; clear hS; go_simp; (try go_bits); exact ⟨rfl, Over.refl _⟩)) ?_
     simp only [Act.put,xd,yc,yd]
     refine wpAnyO_take (i := 7) (v := _) (by assumption) (by simp only [xa,xb,xc]; rfl) (by kernel_rfl) (by kernel_rfl) (by kernel_rfl) (by exact fun _ _ _ h => h) (by kernel_rfl) (fun wx hS => by (obtain ⟨hc, hf⟩ := ocell hS; clear hS; go_simp; (try go_bits); exact ⟨rfl, Over.refl _⟩)) ?_
     simp only [Act.put,xd,yc,yd]
     refine wpAnyO_take (i := 8) (v := _) (by assumption) (by simp only [xa,xb,xc]; rfl) (by kernel_rfl) (by kernel_rfl) (by kernel_rfl) (by exact fun _ _ _ h => h) (by kernel_rfl) (fun wx hS => by (obtain ⟨hc, hf⟩ := ocell hS; clear hS; go_simp; (try go_bits); exact ⟨rfl, Over.refl _⟩)) ?_
     simp only [Act.put,xd,yc,yd]
     refine wpAnyO_done (by kernel_rfl) (fun w2 h2 => ?_) _
     try clear hBW
     go_wp2
     go_roundw
     case rel => exact ⟨k + 1, by omega, by go_num, Hb.out.trans h2, hs2.out⟩
     case measure => simp [intOf]; omega
    all_goals
     have hq := Lib.hid (hd.out (by omega))
     go_wp2
     refine wp_region_O (B := ob _) (Over.refl _) (by kernel_rfl) (by simp only [List.size_toArray, List.length_cons, List.length_nil, Nat.reduceAdd]; rfl) (fun hBW => ?_)
     refine wpAnyO_take (i := 0) (v := _) (by assumption) (by simp only [xa,xb]; rfl) (by kernel_rfl) (by kernel_rfl) (by kernel_rfl) (by exact fun _ _ _ h => h) (by kernel_rfl) (fun wx hS => by (obtain ⟨hc, hf⟩ := ocell hS; clear hS; go_simp; (try go_bits); exact ⟨rfl, Over.refl _⟩)) ?_
     simp only [Act.put,xd,yc,yd]
     refine wpAnyO_take (i := 1) (v := _) (by assumption) (by simp only [xa,xb,xc]; rfl) (by kernel_rfl) (by kernel_rfl) (by kernel_rfl) (by exact fun _ _ _ h => h) (by kernel_rfl) (fun wx hS => by (obtain ⟨hc, hf⟩ := ocell hS; clear hS; go_simp; (try go_bits); exact ⟨rfl, Over.refl _⟩)) ?_
     simp only [Act.put,xd,yc,yd]
     refine wpAnyO_take (i := 2) (v := _) (by assumption) (by simp only [xa,xb,xc]; rfl) (by kernel_rfl) (by kernel_rfl) (by kernel_rfl) (by exact fun _ _ _ h => h) (by kernel_rfl) (fun wx hS => by (obtain ⟨hc, hf⟩ := ocell hS; clear hS; go_simp; (try go_bits); exact ⟨rfl, Over.refl _⟩)) ?_
     simp only [Act.put,xd,yc,yd]
     refine wpAnyO_take (i := 3) (v := _) (by assumption) (by simp only [xa,xb,xc]; rfl) (by kernel_rfl) (by kernel_rfl) (by kernel_rfl) (by exact fun _ _ _ h => h) (by kernel_rfl) (fun wx hS => by (obtain ⟨hc, hf⟩ := ocell hS; clear hS; go_simp; (try go_bits); exact ⟨rfl, Over.refl _⟩)) ?_
     simp only [Act.put,xd,yc,yd]
     refine wpAnyO_take (i := 4) (v := _) (by assumption) (by simp only [xa,xb,xc]; rfl) (by kernel_rfl) (by kernel_rfl) (by kernel_rfl) (by exact fun _ _ _ h => h) (by kernel_rfl) (fun wx hS => by (obtain ⟨hc, hf⟩ := ocell hS; clear hS; go_simp; (try go_bits); exact ⟨rfl, Over.refl _⟩)) ?_
     simp only [Act.put,xd,yc,yd]
     refine wpAnyO_take (i := 5) (v := _) (by assumption) (by simp only [xa,xb,xc]; rfl) (by kernel_rfl) (by kernel_rfl) (by kernel_rfl) (by exact fun _ _ _ h => h) (by kernel_rfl) (fun wx hS => by (obtain ⟨hc, hf⟩ := ocell hS; clear hS; go_simp; (try go_bits); exact ⟨rfl, Over.refl _⟩)) ?_
     simp only [Act.put,xd,yc,yd]
     refine wpAnyO_take (i := 6) (v := _) (by assumption) (by simp only [xa,xb,xc]; rfl) (by kernel_rfl) (by kernel_rfl) (by kernel_rfl) (by exact fun _ _ _ h => h) (by kernel_rfl) (fun wx hS => by (obtain ⟨hc, hf⟩ := ocell hS; clear hS; go_simp; (try go_bits); exact ⟨rfl, Over.refl _⟩)) ?_
     simp only [Act.put,xd,yc,yd]
     refine wpAnyO_take (i := 7) (v := _) (by assumption) (by simp only [xa,xb,xc]; rfl) (by kernel_rfl) (by kernel_rfl) (by kernel_rfl) (by exact fun _ _ _ h => h) (by kernel_rfl) (fun wx hS => by (obtain ⟨hc, hf⟩ := ocell hS; clear hS; go_simp; (try go_bits); exact ⟨rfl, Over.refl _⟩)) ?_
     simp only [Act.put,xd,yc,yd]
     refine wpAnyO_take (i := 8) (v := _) (by assumption) (by simp only [xa,xb,xc]; rfl) (by kernel_rfl) (by kernel_rfl) (by kernel_rfl) (by exact fun _ _ _ h => h) (by kernel_rfl) (fun wx hS => by (obtain ⟨hc, hf⟩ := ocell hS; clear hS; go_simp; (try go_bits); exact ⟨rfl, Over.refl _⟩)) ?_
     simp only [Act.put,xd,yc,yd]
     refine wpAnyO_done (by kernel_rfl) (fun w2 h2 => ?_) _
     try clear hBW
     go_wp2
     go_ret
     exact ⟨by rw [hq.out]; rfl, Hb.out.trans h2⟩
   ·have hkn : k = n := by omega
    have hq : Hid (decide (xs = ys) = true) := decide_eq_true (pts_ext (by rw [hl.out, hl'.out]) (fun j hj => hall.out j (by rw [hl.out] at hj; omega)))
    clear h h' hall hl hl'
    go_wp2
    go_ret
    exact ⟨by rw [hq.out]; rfl, hb⟩
 ·have hq : ((n : Int) != (m : Int)) = true := by simp; omega
  have hv : Hid (decide (xs = ys) = false) := decide_eq_false (fun e => hnm (by rw [← hl.out, ← hl'.out, e]))
  clear h h' hl hl'
  go_enter Try.func93, Try.ntmps93
  go_wp2
  go_ret
  exact ⟨by rw [hv.out]; rfl, (by repeat (first | exact Over.refl _ | (with_reducible assumption) | refine Over.alloc_ ?_ _ | refine Over.trans ?_ (by with_reducible assumption) | refine Over.drew_ ?_ | refine Over.set_ ?_ (by simp; try omega) _))⟩

theorem cell_congr {w w' : World} {b o : Nat} (h : w'.heap[b]? = w.heap[b]?) : w'.cell? ⟨b, o, none⟩ = w.cell? ⟨b, o, none⟩ := by
 simp only [World.cell?, h]
theorem Pts.agree {w w' : World} {A : Option Addr} {n : Nat} {xs : List (Int × Int)} (h : Pts w A n xs) (hz : w.heap.size ≤ w'.heap.size) (ha : ∀ p, A = some p → w'.heap[p.block]? = w.heap[p.block]?) : Pts w' A n xs := by
 refine ⟨h.1, fun hn => ?_⟩
 obtain ⟨b, o, rfl, hlt, hc⟩ := h.2 hn
 have hb := ha _ rfl
 refine ⟨b, o, rfl, by omega, fun k hk => ?_⟩
 rw [cell_congr hb, cell_congr hb]
 exact hc k hk
theorem OwnR.agree {B : Nat} {w w' : World} {g n : Nat} {rs : List Ring_} (h : OwnR B w g n rs) (hz : w.heap.size ≤ w'.heap.size) (ha : ∀ b, B ≤ b → b < w.heap.size → w'.heap[b]? = w.heap[b]?) : OwnR B w' g n rs := by
 have hB := h.1
 have hg := ha g h.1 h.2.2.1.lt
 refine ⟨h.1, h.2.1, ?_, fun k hk => ?_⟩
 ·obtain ⟨cs, hs, hh⟩ := h.2.2.1
  exact ⟨cs, hs, hg.trans hh⟩
 ·obtain ⟨gk, h1, h2, h3, h4⟩ := h.2.2.2 k hk
  have hgk := ha gk h1 h4.1.lt
  refine ⟨gk, h1, h2, (cell_congr hg).trans h3, ?_, h4.2.agree hz fun p hp => ?_⟩
  ·obtain ⟨cs, hs, hh⟩ := h4.1
   exact ⟨cs, hs, hgk.trans hh⟩
  ·injection hp with hp
   subst hp
   exact hgk
/-- Something that lies in the blocks from lo up to hi. -/
def Res.clo (lo hi : Nat) (P0 : World → Prop) : Res where
 F b := lo ≤ b ∧ b < hi
 P w := hi ≤ w.heap.size ∧ ∀ w', hi ≤ w'.heap.size → (∀ b, lo ≤ b → b < hi → w'.heap[b]? = w.heap[b]?) → P0 w'
 low w h b hb := Nat.lt_of_lt_of_le hb.2 h.1
 B := 0
 dep w w' h hz hb := ⟨Nat.le_trans h.1 hz, fun w'' h2 h3 => h.2 w'' h2 fun b h4 h5 => (h3 b h4 h5).trans (hb b (Nat.lt_of_lt_of_le h5 h.1) (.inr ⟨h4, h5⟩))⟩
section
variable {w : World} {w0 : Bs} {Rs : List Res}
end
end Go.Proofs.Ytjhaakollekjeaa
