/- The reference's lists of edges. -/
import Derived.Test.YtnalgllmdpcjcaaLegs
import Derived.Test.YtnalgllmdpcjcaaRegion
namespace Go.Proofs.Ytnalgllmdpcjcaa
open Go Go.RowKit

theorem edgeInfo : (Try.prog.info? 117).map (fun i => (i.zero, i.size, i.bytes)) = some (some (.agg #[.int .i64 0, .int .i64 0, .int .i64 0, .int .i64 0]), 4, 32) := by kernel_rfl

theorem four_cells {w : World} {b : Nat} {x y z u : Value} {t : TypeId} (h : w.heap[b]? = some (.cells (Value.agg #[x, y, z, u]).cells t (0, 0))) :
    w.cell? ⟨b, 0, none⟩ = some x ∧ w.cell? ⟨b, 1, none⟩ = some y ∧ w.cell? ⟨b, 2, none⟩ = some z ∧ w.cell? ⟨b, 3, none⟩ = some u :=
  ⟨(cell_of_row w b 0 _ t (0, 0) h).trans rfl, (cell_of_row w b 1 _ t (0, 0) h).trans rfl, (cell_of_row w b 2 _ t (0, 0) h).trans rfl, (cell_of_row w b 3 _ t (0, 0) h).trans rfl⟩

theorem own_empty (w : World) (T s : Nat) : (w.alloc (.cells #[] T)).ownsRow w.heap.size T s (.slice (some ⟨w.heap.size, 0, none⟩) 0 0) 0 [] :=
  ⟨by simp, .inr ⟨w.heap.size, 0, #[], rfl, Nat.le_refl _, heap_alloc_new w _, Nat.le_refl _, by unfold maxLen; omega, by simp, by simp⟩⟩

set_option maxHeartbeats 2000000 in
set_option maxRecDepth 100000 in
theorem l13Edges_any (b1 o1 : Nat) (A : Option Addr) (n c : Nat) (xs : List (Int × Int)) (w : World) (hcell : w.cell? ⟨b1, o1, none⟩ = some (.slice A n c)) (hb1 : b1 < w.heap.size) (h : Pts w A n xs) (hn : (n : Int) ≤ 1048577) :
    Calls Try.prog 133 #[.pointer (some ⟨b1, o1, none⟩)] w fun e w' => ∃ v, e = .returned v ∧ v ≠ .slice none 0 0 ∧ w'.ownsRow w.heap.size 117 4 v (edgesR xs).length ((edgesR xs).flatMap legCells) ∧ Over w w' := by
  obtain ⟨i0, hi, hz0, hz1, hz2⟩ := info_parts2 edgeInfo
  go_enter Try.func133, Try.ntmps133
  go_wp2
  go_loopw [3, 5] (fun s i wr => ∃ k : Nat, k ≤ n ∧ i = .int .i64 k ∧ s ≠ .slice none 0 0 ∧ wr.ownsRow w.heap.size 117 4 s (edgesTo xs k).length ((edgesTo xs k).flatMap legCells) ∧ Over w wr) (fun _ i _ => n - (intOf i).toNat)
  case atStart => exact ⟨0, Nat.zero_le _, rfl, by simp, own_empty _ _ _, Over.alloc _ _⟩
  case round =>
    rename_i wr
    have hl0 := h.1
    obtain ⟨k, hk, rfl, hnn, hown, hO⟩ := hrel
    by_cases hlt : k < n
    · have hl := h.1
      obtain ⟨b, o, rfl, hbB, hc1, hc2⟩ := (h.over hO).at_ hlt
      obtain ⟨b', o', e, hbB', hc1', hc2'⟩ := (h.over hO).at_ (k := nx xs k) (by have := nx_lt (xs := xs) k (by omega); omega)
      injection e with e
      injection e with e1 e2 _
      subst e1 e2
      have hnx : ((k : Int) + 1).tmod (n : Int) = ((nx xs k : Nat) : Int) := by rw [Int.tmod_eq_emod_of_nonneg (by omega)]; exact nx_int hl k
      have hnl := nx_lt k (show 0 < xs.length by omega)
      have hbx : wr.cell? ⟨b1, o1, none⟩ = some (.slice (some ⟨b, o, none⟩) n c) := ((ocell hO).1 _ _ hb1).trans hcell
      have hbz : b1 < wr.heap.size := Nat.lt_of_lt_of_le hb1 hO.size
      rw [hl] at hnl
      have hn0 : ¬ n = 0 := by omega
      have Hown := Lib.hid hown
      have Hnn := Lib.hid hnn
      have HO := Lib.hid hO
      have hs := Lib.hid (edgesTo_succ xs k)
      generalize px xs k = x at hc1 hs
      generalize py xs k = y at hc2 hs
      generalize px xs (nx xs k) = x' at hc1' hs
      generalize py xs (nx xs k) = y' at hc2' hs
      clear h hl hown hO hnn
      go_wp2
      refine wp_region_O (B := ob _) (Over.refl _) (by kernel_rfl) (by simp only [List.size_toArray, List.length_cons, List.length_nil, Nat.reduceAdd]; rfl) (fun hBW => ?_)
      refine wpAnyO_take (i := 0) (v := _) (by assumption) (by simp only [List.getElem?_toArray, List.getElem?_cons_zero]; rfl) (by kernel_rfl) (by kernel_rfl) (by kernel_rfl) (by exact fun _ _ _ h => h) (by kernel_rfl) (fun wx hS => by (obtain ⟨hc, hf⟩ := ocell hS; clear hS; go_simp; (try go_bits); exact ⟨rfl, Over.refl _⟩)) ?_
      simp only [Act.put, List.setIfInBounds_toArray, List.set_cons_zero, List.set_cons_succ]
      refine wpAnyO_take (i := 1) (v := _) (by assumption) (by simp only [List.getElem?_toArray, List.getElem?_cons_zero, List.getElem?_cons_succ]; rfl) (by kernel_rfl) (by kernel_rfl) (by kernel_rfl) (by exact fun _ _ _ h => h) (by kernel_rfl) (fun wx hS => by (obtain ⟨hc, hf⟩ := ocell hS; clear hS; go_simp; (try go_bits); exact ⟨rfl, Over.refl _⟩)) ?_
      simp only [Act.put, List.setIfInBounds_toArray, List.set_cons_zero, List.set_cons_succ]
      refine wpAnyO_take (i := 2) (v := _) (by assumption) (by simp only [List.getElem?_toArray, List.getElem?_cons_zero, List.getElem?_cons_succ]; rfl) (by kernel_rfl) (by kernel_rfl) (by kernel_rfl) (by exact fun _ _ _ h => h) (by kernel_rfl) (fun wx hS => by (obtain ⟨hc, hf⟩ := ocell hS; clear hS; go_simp; (try go_bits); exact ⟨rfl, Over.refl _⟩)) ?_
      simp only [Act.put, List.setIfInBounds_toArray, List.set_cons_zero, List.set_cons_succ]
      refine wpAnyO_take (i := 3) (v := _) (by assumption) (by simp only [List.getElem?_toArray, List.getElem?_cons_zero, List.getElem?_cons_succ]; rfl) (by kernel_rfl) (by kernel_rfl) (by kernel_rfl) (by exact fun _ _ _ h => h) (by kernel_rfl) (fun wx hS => by (obtain ⟨hc, hf⟩ := ocell hS; clear hS; go_simp; (try go_bits); exact ⟨rfl, Over.refl _⟩)) ?_
      simp only [Act.put, List.setIfInBounds_toArray, List.set_cons_zero, List.set_cons_succ]
      refine wpAnyO_take (i := 4) (v := _) (by assumption) (by simp only [List.getElem?_toArray, List.getElem?_cons_zero, List.getElem?_cons_succ]; rfl) (by kernel_rfl) (by kernel_rfl) (by kernel_rfl) (by exact fun _ _ _ h => h) (by kernel_rfl) (fun wx hS => by (obtain ⟨hc, hf⟩ := ocell hS; clear hS; go_simp; (try go_bits); exact ⟨rfl, Over.refl _⟩)) ?_
      simp only [Act.put, List.setIfInBounds_toArray, List.set_cons_zero, List.set_cons_succ]
      refine wpAnyO_take (i := 5) (v := _) (by assumption) (by simp only [List.getElem?_toArray, List.getElem?_cons_zero, List.getElem?_cons_succ]; rfl) (by kernel_rfl) (by kernel_rfl) (by kernel_rfl) (by exact fun _ _ _ h => h) (by kernel_rfl) (fun wx hS => by (obtain ⟨hc, hf⟩ := ocell hS; clear hS; go_simp; (try go_bits); exact ⟨rfl, Over.refl _⟩)) ?_
      simp only [Act.put, List.setIfInBounds_toArray, List.set_cons_zero, List.set_cons_succ]
      refine wpAnyO_take (i := 6) (v := _) (by assumption) (by simp only [List.getElem?_toArray, List.getElem?_cons_zero, List.getElem?_cons_succ]; rfl) (by kernel_rfl) (by kernel_rfl) (by kernel_rfl) (by exact fun _ _ _ h => h) (by kernel_rfl) (fun wx hS => by (obtain ⟨hc, hf⟩ := ocell hS; clear hS; go_simp; (try go_bits); exact ⟨rfl, Over.refl _⟩)) ?_
      simp only [Act.put, List.setIfInBounds_toArray, List.set_cons_zero, List.set_cons_succ]
      refine wpAnyO_take (i := 7) (v := _) (by assumption) (by simp only [List.getElem?_toArray, List.getElem?_cons_zero, List.getElem?_cons_succ]; rfl) (by kernel_rfl) (by kernel_rfl) (by kernel_rfl) (by exact fun _ _ _ h => h) (by kernel_rfl) (fun wx hS => by (obtain ⟨hc, hf⟩ := ocell hS; clear hS; go_simp; (try go_bits); exact ⟨rfl, Over.refl _⟩)) ?_
      simp only [Act.put, List.setIfInBounds_toArray, List.set_cons_zero, List.set_cons_succ]
      refine wpAnyO_take (i := 8) (v := _) (by assumption) (by simp only [List.getElem?_toArray, List.getElem?_cons_zero, List.getElem?_cons_succ]; rfl) (by kernel_rfl) (by kernel_rfl) (by kernel_rfl) (by exact fun _ _ _ h => h) (by kernel_rfl) (fun wx hS => by (obtain ⟨hc, hf⟩ := ocell hS; clear hS; go_simp; (try go_bits); exact ⟨rfl, Over.refl _⟩)) ?_
      simp only [Act.put, List.setIfInBounds_toArray, List.set_cons_zero, List.set_cons_succ]
      refine wpAnyO_take (i := 9) (v := _) (by assumption) (by simp only [List.getElem?_toArray, List.getElem?_cons_zero, List.getElem?_cons_succ]; rfl) (by kernel_rfl) (by kernel_rfl) (by kernel_rfl) (by exact fun _ _ _ h => h) (by kernel_rfl) (fun wx hS => by (obtain ⟨hc, hf⟩ := ocell hS; clear hS; go_simp; (try go_bits); exact ⟨rfl, Over.refl _⟩)) ?_
      simp only [Act.put, List.setIfInBounds_toArray, List.set_cons_zero, List.set_cons_succ]
      refine wpAnyO_take (i := 10) (v := _) (by assumption) (by simp only [List.getElem?_toArray, List.getElem?_cons_zero, List.getElem?_cons_succ]; rfl) (by kernel_rfl) (by kernel_rfl) (by kernel_rfl) (by exact fun _ _ _ h => h) (by kernel_rfl) (fun wx hS => by (obtain ⟨hc, hf⟩ := ocell hS; clear hS; go_simp; (try go_bits); exact ⟨rfl, Over.refl _⟩)) ?_
      simp only [Act.put, List.setIfInBounds_toArray, List.set_cons_zero, List.set_cons_succ]
      refine wpAnyO_take (i := 11) (v := _) (by assumption) (by simp only [List.getElem?_toArray, List.getElem?_cons_zero, List.getElem?_cons_succ]; rfl) (by kernel_rfl) (by kernel_rfl) (by kernel_rfl) (by exact fun _ _ _ h => h) (by kernel_rfl) (fun wx hS => by (obtain ⟨hc, hf⟩ := ocell hS; clear hS; go_simp; (try go_bits); exact ⟨rfl, Over.refl _⟩)) ?_
      simp only [Act.put, List.setIfInBounds_toArray, List.set_cons_zero, List.set_cons_succ]
      refine wpAnyO_take (i := 12) (v := _) (by assumption) (by simp only [List.getElem?_toArray, List.getElem?_cons_zero, List.getElem?_cons_succ]; rfl) (by kernel_rfl) (by kernel_rfl) (by kernel_rfl) (by exact fun _ _ _ h => h) (by kernel_rfl) (fun wx hS => by (obtain ⟨hc, hf⟩ := ocell hS; clear hS; go_simp; (try go_bits); exact ⟨rfl, Over.refl _⟩)) ?_
      simp only [Act.put, List.setIfInBounds_toArray, List.set_cons_zero, List.set_cons_succ]
      refine wpAnyO_take (i := 13) (v := _) (by assumption) (by simp only [List.getElem?_toArray, List.getElem?_cons_zero, List.getElem?_cons_succ]; rfl) (by kernel_rfl) (by kernel_rfl) (by kernel_rfl) (by exact fun _ _ _ h => h) (by kernel_rfl) (fun wx hS => by (obtain ⟨hc, hf⟩ := ocell hS; clear hS; go_simp; (try go_bits); exact ⟨rfl, Over.refl _⟩)) ?_
      simp only [Act.put, List.setIfInBounds_toArray, List.set_cons_zero, List.set_cons_succ]
      refine wpAnyO_take (i := 14) (v := _) (by assumption) (by simp only [List.getElem?_toArray, List.getElem?_cons_zero, List.getElem?_cons_succ]; rfl) (by kernel_rfl) (by kernel_rfl) (by kernel_rfl) (by exact fun _ _ _ h => h) (by kernel_rfl) (fun wx hS => by (obtain ⟨hc, hf⟩ := ocell hS; clear hS; go_simp; (try go_bits); exact ⟨rfl, Over.refl _⟩)) ?_
      simp only [Act.put, List.setIfInBounds_toArray, List.set_cons_zero, List.set_cons_succ]
      refine wpAnyO_take (i := 15) (v := _) (by assumption) (by simp only [List.getElem?_toArray, List.getElem?_cons_zero, List.getElem?_cons_succ]; rfl) (by kernel_rfl) (by kernel_rfl) (by kernel_rfl) (by exact fun _ _ _ h => h) (by kernel_rfl) (fun wx hS => by (obtain ⟨hc, hf⟩ := ocell hS; clear hS; go_simp; (try go_bits); exact ⟨rfl, Over.refl _⟩)) ?_
      simp only [Act.put, List.setIfInBounds_toArray, List.set_cons_zero, List.set_cons_succ]
      refine wpAnyO_take (i := 16) (v := _) (by assumption) (by simp only [List.getElem?_toArray, List.getElem?_cons_zero, List.getElem?_cons_succ]; rfl) (by kernel_rfl) (by kernel_rfl) (by kernel_rfl) (by exact fun _ _ _ h => h) (by kernel_rfl) (fun wx hS => by (obtain ⟨hc, hf⟩ := ocell hS; clear hS; go_simp; (try go_bits); exact ⟨rfl, Over.refl _⟩)) ?_
      simp only [Act.put, List.setIfInBounds_toArray, List.set_cons_zero, List.set_cons_succ]
      refine wpAnyO_take (i := 17) (v := _) (by assumption) (by simp only [List.getElem?_toArray, List.getElem?_cons_zero, List.getElem?_cons_succ]; rfl) (by kernel_rfl) (by kernel_rfl) (by kernel_rfl) (by exact fun _ _ _ h => h) (by kernel_rfl) (fun wx hS => by (obtain ⟨hc, hf⟩ := ocell hS; clear hS; go_simp; (try go_bits); exact ⟨rfl, Over.refl _⟩)) ?_
      simp only [Act.put, List.setIfInBounds_toArray, List.set_cons_zero, List.set_cons_succ]
      refine wpAnyO_new1 (i := 18) (k := 19) (by assumption) (by simp only [List.getElem?_toArray, List.getElem?_cons_zero, List.getElem?_cons_succ]; rfl) (by simp only [List.getElem?_toArray, List.getElem?_cons_zero, List.getElem?_cons_succ]; rfl) (by rfl) (by rfl) (by rfl) (by rfl) (by rfl) (by rfl) (fun _ => by (go_simp; rfl)) (by kernel_rfl) (by kernel_rfl) (fun _ => by rfl) (fun _ => by rfl) (by kernel_rfl) (by rfl) (by simp [Value.oneCell']) ?_
      intro w2 q1 ho hq1 hl1 hh1 hBx
      replace hBW := hBx; clear hBx
      simp only [Act.put, List.setIfInBounds_toArray, List.set_cons_zero, List.set_cons_succ]
      obtain ⟨k1, k2, k3, k4⟩ := four_cells hh1
      refine wpAnyO_done (by kernel_rfl) (fun w3 h3 => ?_) _
      try clear hBW
      have H3 := Lib.hid (ho.trans h3)
      have l1 := ((ocell h3).1 q1 0 hl1).trans k1
      have l2 := ((ocell h3).1 q1 1 hl1).trans k2
      have l3 := ((ocell h3).1 q1 2 hl1).trans k3
      have l4 := ((ocell h3).1 q1 3 hl1).trans k4
      have hl3 : q1 < w3.heap.size := Nat.lt_of_lt_of_le hl1 h3.size
      have hw3 := H3.out.size
      clear k1 k2 k3 k4 ho h3 hh1
      have key : (x = x' ∧ y = y') ∨ (¬ x = x') ∨ (x = x' ∧ ¬ y = y') := by omega
      rcases key with ⟨rfl, rfl⟩ | hne | ⟨rfl, hne⟩
      · replace hs : Hid (edgesTo xs (k + 1) = edgesTo xs k) := by have := hs.out; rw [if_pos ⟨rfl, rfl⟩] at this; exact this
        go_wp2
        go_roundw
        case rel => exact ⟨k + 1, by omega, by go_num, Hnn.out, by rw [hs.out]; exact row_over Hown.out H3.out, HO.out.trans H3.out⟩
        case measure => simp [intOf]; omega
      all_goals
        replace hs := Lib.hid (hs.out.trans (if_neg (by omega)))
        have hlen := edgesTo_len xs k
        go_wp2_with (at_builtin; refine wpList_append_own _ rfl _ _ 113 rfl w.heap.size 117 i0 _ 4 32 Try.underlying113 hi hz0 hz1 hz2 rfl (by decide) _ _ _ rfl ((row_over Hown.out H3.out).alloc _) ⟨w3.heap.size, 0, none⟩ 1 1 (legCells ⟨x, y, _, y'⟩) rfl rfl (one_cells rfl) (by simp [legCells, Value.oneCell']) (by unfold maxLen; omega) (by omega) (by have := HO.out.size; have := H3.out.size; simp at *; omega) ?_)
        intro v' w5 hown5 hgrow5 hnn5
        have R0 : Hid (v' ≠ .slice none 0 0) := hnn5
        have R1 : Hid (Over w w5) := over_grown HO.out Hown.out (Nat.le_refl _) (Over.alloc_ H3.out _) hgrow5
        have R2 : Hid (w5.ownsRow w.heap.size 117 4 v' (edgesTo xs (k + 1)).length ((edgesTo xs (k + 1)).flatMap legCells)) := by
          unfold Hid
          rw [hs.out]
          simpa using hown5
        clear hown5 hgrow5 hnn5
        go_wp2
        go_roundw
        case rel => exact ⟨k + 1, by omega, by go_num, R0.out, R2.out, R1.out⟩
        case measure => simp [intOf]; omega
    · clear h
      have hkn : k = n := by omega
      have hb' := Lib.hid hO
      have hr : Hid (u3 ≠ .slice none 0 0 ∧ wr.ownsRow w.heap.size 117 4 u3 (edgesR xs).length ((edgesR xs).flatMap legCells)) := by
        unfold Hid edgesR
        rw [hl0, ← hkn]
        exact ⟨hnn, hown⟩
      clear hown hO hnn
      go_wp2
      go_ret
      exact ⟨_, rfl, hr.out.1, hr.out.2, hb'.out⟩
end Go.Proofs.Ytnalgllmdpcjcaa
