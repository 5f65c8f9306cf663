/- The law JoinRegions, walked. -/
import Derived.Test.YtnalgllmdpcjcaaJoin
namespace Go.Proofs.Ytnalgllmdpcjcaa
open Go Go.RowKit
set_option linter.unusedVariables false
set_option linter.unusedSimpArgs false
set_option maxRecDepth 100000
set_option maxHeartbeats 4000000
set_option linter.unusedVariables false

theorem jnR_small (rs ss : List Ring_) : smallR (jnR rs ss) := by
  unfold jnR
  split
  · exact fitR_small _
  · exact smallR.nil
theorem markGegM {lo hi n c : Nat} {A : Option Addr} {rs : List Ring_} {w : World} (m : Nat) (h : OwnG lo hi w A n rs) (hz : hi ≤ w.heap.size) (hm : m ≤ 2097152) (hb : 1 + 2 * (sumTo rs n : Nat) ≤ (2305843009213693952 : Int) ∧ n ≤ 2305843009213693952) :
    Calls Try.prog 35 #[regV A n c, .int .i64 (1 + 2 * (m : Nat))] w fun e w' => e = .returned (.int .i64 (1 + 2 * ((m + sumTo rs n : Nat) : Nat))) ∧ Wrs (gegR n rs lo hi A).F w w' ∧ (gegR n (marksR (1 + 2 * (m : Nat)) rs) lo hi A).P w' :=
  (markRegion_any lo hi A n c rs _ w h hz (by omega) (by omega) (by omega)).mono (by rintro e w' ⟨he, hw, hg⟩; exact ⟨by rw [he]; exact retI (by omega), hw, gegP hg (Nat.le_trans hz hw.size)⟩)
theorem total_sum2 {rs : List Ring_} (ht : (total rs : Int) ≤ 1048576) {n : Nat} (hn : rs.length = n) : sumTo rs n ≤ 1048576 ∧ n ≤ 1048576 := by
  unfold total at ht
  rw [hn] at ht
  omega
theorem szV_ok {l : Int} {n : Nat} (h : ¬ szV l n < 0) : (n : Int) ≤ l ∧ szV l n = l - n := by
  unfold szV at *
  split
  · exact ⟨by assumption, rfl⟩
  · rename_i h2; rw [if_neg h2] at h; omega
theorem law_JoinRegions (A : Option Addr) (n c : Nat) (rs : List Ring_) (A2 : Option Addr) (n2 c2_ : Nat) (ss : List Ring_) (w : World) (h : Rings w A n rs) (hm : (n : Int) ≤ 9223372036854775807) (h2 : Rings w A2 n2 ss) (hm2 : (n2 : Int) ≤ 9223372036854775807) :
    Calls Try.prog 8 #[regV A n c, regV A2 n2 c2_] w fun e w' => e = .returned (.bool true) ∧ Over w w' := by
  have hl := h.1
  have hl2 := h2.1
  have hsm := jnR_small rs ss
  have hst := hsm.total
  have hss := hsm.sum rfl
  refine walk_from (m := 119) (Try.func8) rfl rfl (Nat.le_of_ble_eq_true rfl) ?_
  refine at_seq ?_
  refine at_region ?_
  refine at_op rfl ?_
  refine op_box rfl rfl (rfl) rfl (by decide) (fun b1 => ?_)
  refine at_rsE (by simp only [List.nil_append, List.cons_append, List.set_cons_zero, List.set_cons_succ, Value.cells, List.toList_toArray]; rfl) ?_
  refine at_op rfl ?_
  refine op_box rfl rfl (rfl) rfl (by decide) (fun b2 => ?_)
  refine at_rsE (by simp only [List.nil_append, List.cons_append, List.set_cons_zero, List.set_cons_succ, Value.cells, List.toList_toArray]; rfl) ?_
  refine at_q rfl rfl (by decide) (qt_assign rfl rfl) ?_
  refine at_end ?_
  refine at_seq ?_
  refine at_region ?_
  refine at_q rfl rfl (by decide) (qt_assign rfl rfl) ?_
  refine at_end ?_
  refine at_seq ?_
  refine at_region ?_
  refine at_q rfl rfl (by decide) (qt_loadS rfl rfl tys_laws_Region rfl (rdAll (k := 0) rfl)) ?_
  refine at_q rfl rfl (by decide) (qt_move rfl rfl) ?_
  refine at_q rfl rfl (by decide) (qt_call ok_laws_szRegion rfl rfl (fun w1 hs => szRegion_any A n c rs 1048576 w1 (h.over hs.fin) (by omega) (by omega) hm)) ?_
  refine at_q rfl rfl (by decide) (qt_assign rfl rfl) ?_
  refine at_end ?_
  refine at_seq ?_
  refine at_seq ?_
  refine at_region ?_
  refine at_q rfl rfl (by decide) (qt_move rfl rfl) ?_
  refine at_q rfl rfl (by decide) (qt_lss rfl rfl rfl) ?_
  refine at_end ?_
  refine at_cond rfl (fun c1 => ?_) (fun c1 => ?_)
  · try simp only [decide_eq_true_eq, decide_eq_false_iff_not, beq_iff_eq, beq_eq_false_iff_ne, Bool.not_eq_true', Bool.not_eq_false', Bool.not_true, Bool.not_false, Int.not_lt, Int.not_le, ne_eq, Nat.not_lt, Nat.not_le] at c1
    refine at_seq ?_
    refine at_region ?_
    refine at_q rfl rfl (by decide) (qt_assign rfl rfl) ?_
    refine at_end ?_
    refine at_retc ?_
    refine then_ret ?_
    refine at_ret1 rfl (.tmp rfl) ?_
    intro w' hs
    exact ⟨rfl, hs.fin⟩
  · try simp only [decide_eq_true_eq, decide_eq_false_iff_not, beq_iff_eq, beq_eq_false_iff_ne, Bool.not_eq_true', Bool.not_eq_false', Bool.not_true, Bool.not_false, Int.not_lt, Int.not_le, ne_eq, Nat.not_lt, Nat.not_le] at c1
    obtain ⟨ht, e1⟩ := szV_ok (Int.not_lt.2 c1)
    clear hm
    rw [e1]
    have htp : (0 : Int) ≤ total rs := Int.natCast_nonneg _
    refine at_skip ?_
    refine norm_then ?_
    refine at_seq ?_
    refine at_region ?_
    refine at_q rfl rfl (by decide) (qt_loadS rfl rfl tys_laws_Region rfl (rdAll (k := 1) rfl)) ?_
    refine at_q rfl rfl (by decide) (qt_move rfl rfl) ?_
    refine at_q rfl rfl (by decide) (qt_call ok_laws_szRegion rfl rfl (fun w1 hs => szRegion_any A2 n2 c2_ ss _ w1 (h2.over hs.fin) (by omega) (by omega) hm2)) ?_
    refine at_q rfl rfl (by decide) (qt_assign rfl rfl) ?_
    refine at_end ?_
    refine at_seq ?_
    refine at_seq ?_
    refine at_region ?_
    refine at_q rfl rfl (by decide) (qt_move rfl rfl) ?_
    refine at_q rfl rfl (by decide) (qt_lss rfl rfl rfl) ?_
    refine at_end ?_
    refine at_cond rfl (fun c2 => ?_) (fun c2 => ?_)
    · try simp only [decide_eq_true_eq, decide_eq_false_iff_not, beq_iff_eq, beq_eq_false_iff_ne, Bool.not_eq_true', Bool.not_eq_false', Bool.not_true, Bool.not_false, Int.not_lt, Int.not_le, ne_eq, Nat.not_lt, Nat.not_le] at c2
      refine at_seq ?_
      refine at_region ?_
      refine at_q rfl rfl (by decide) (qt_assign rfl rfl) ?_
      refine at_end ?_
      refine at_retc ?_
      refine then_ret ?_
      refine at_ret1 rfl (.tmp rfl) ?_
      intro w' hs
      exact ⟨rfl, hs.fin⟩
    · try simp only [decide_eq_true_eq, decide_eq_false_iff_not, beq_iff_eq, beq_eq_false_iff_ne, Bool.not_eq_true', Bool.not_eq_false', Bool.not_true, Bool.not_false, Int.not_lt, Int.not_le, ne_eq, Nat.not_lt, Nat.not_le] at c2
      obtain ⟨ht2, _⟩ := szV_ok (Int.not_lt.2 c2)
      replace ht2 : (total ss : Int) ≤ 1048576 := (by omega)
      clear hm2
      have hts := total_sum2 ht hl
      have hts2 := total_sum2 ht2 hl2
      refine at_skip ?_
      refine norm_then ?_
      refine at_cutX (X := ((Nat × Nat × Nat) × (Nat × Nat × Nat)) × ((Option Addr × Nat) × Nat × Nat) × Nat) (fun x => True) (fun x => [(6, .pointer (some ⟨x.2.2, 0, none⟩)), (7, .int .i64 (jnC rs ss))]) (C := [(2, _), (3, _), (4, _)]) ⟨rfl, rfl, rfl, trivial⟩ (fun x => [.cel b1 47 [.slice A n c], .cel b2 47 [.slice A2 n2 c2_], gegR n rs x.1.1.2.1 x.1.1.2.2 (some ⟨x.1.1.1, 0, none⟩), gegR n2 ss x.1.2.2.1 x.1.2.2.2 (some ⟨x.1.2.1, 0, none⟩), gegR (jnR rs ss).length (jnR rs ss) x.2.1.2.1 x.2.1.2.2 x.2.1.1.1, .cel x.2.2 53 [.slice x.2.1.1.1 (jnR rs ss).length x.2.1.1.2]]) (fun L hC_cut_8 => ?_) ?_
      · refine dg_start mixed rfl ?_
        refine dg_phase 11 ?_
        refine dg_q (i := 0) rfl (by kernel_rfl) (by kernel_rfl) (by kernel_rfl) [] (by kernel_rfl) (fun _ _ _ h => h) rfl rfl (by decide) (fun _ h => h.upto ⟨rfl, rfl, trivial⟩) (qt_loadS rfl rfl tys_laws_Region rfl (rdAll (k := 0) rfl)) ?_
        refine dg_q (i := 2) rfl (by kernel_rfl) (by kernel_rfl) (by kernel_rfl) [] (by kernel_rfl) (fun _ _ _ h => h) rfl rfl (by decide) (fun _ h => h.upto ⟨rfl, rfl, trivial⟩) (qt_loadS rfl rfl tys_laws_Region rfl (rdAll (k := 1) rfl)) ?_
        refine dg_two (i := 1) (j := 8) rfl rfl (by decide) (by decide) (by kernel_rfl) rfl rfl ?_ ?_
        · refine op_call ok_laws_toRegion (X := Nat × Nat × Nat) (v := fun x => regV (some ⟨x.1, 0, none⟩) n n) (r := fun x => gegR n rs x.2.1 x.2.2 (some ⟨x.1, 0, none⟩)) (H := fun _ => True) rfl rfl rfl (by decide) (fun w1 hs => gegNew1 (toRegion_new A n c rs w1 (h.over hs.fin) ht)) ?_
          rintro ⟨tg, tlo, thi⟩ -
          refine at_rsE (by simp only [List.nil_append, List.cons_append, List.set_cons_zero, List.set_cons_succ, Value.cells, List.toList_toArray]; rfl) ?_
          refine dr_keep (fun _ h => h.upto ⟨rfl, rfl, trivial⟩) ?_
          refine dg_two (i := 3) (j := 8) rfl rfl (by decide) (by decide) (by kernel_rfl) rfl rfl ?_ ?_
          · refine op_call ok_laws_toRegion (X := Nat × Nat × Nat) (v := fun x => regV (some ⟨x.1, 0, none⟩) n2 n2) (r := fun x => gegR n2 ss x.2.1 x.2.2 (some ⟨x.1, 0, none⟩)) (H := fun _ => True) rfl rfl rfl (by decide) (fun w1 hs => gegNew1 (toRegion_new A2 n2 c2_ ss w1 (h2.over hs.fin) ht2)) ?_
            rintro ⟨tg2, tlo2, thi2⟩ -
            refine at_rsE (by simp only [List.nil_append, List.cons_append, List.set_cons_zero, List.set_cons_succ, Value.cells, List.toList_toArray]; rfl) ?_
            refine dr_keep (fun _ h => h.upto ⟨rfl, rfl, trivial⟩) ?_
            refine dg_two (i := 4) (j := 8) rfl rfl (by decide) (by decide) (by kernel_rfl) rfl rfl ?_ ?_
            · refine op_call ok_spec_JoinRegions (X := (Option Addr × Nat) × Nat × Nat) (v := fun x => .tuple #[regV x.1.1 _ x.1.2, .int .i64 _]) (r := fun x => gegR _ _ x.2.1 x.2.2 x.1.1) (H := fun _ => True) rfl rfl rfl (by decide) (fun w1 hs => gegCode (specJoinRegions_any _ _ n n n2 n2 rs ss w1 (gegRings (k := 2) rfl w1 hs) (gegRings (k := 3) rfl w1 hs) (Int.le_trans ht (by decide)) (Int.le_trans ht2 (by decide)))) ?_
              rintro ⟨⟨wA, wc⟩, wlo, whi⟩ -
              refine at_rsE (by simp only [List.nil_append, List.cons_append, List.set_cons_zero, List.set_cons_succ, Value.cells, List.toList_toArray]; rfl) ?_
              refine dr_keep (fun _ h => h.upto ⟨rfl, rfl, trivial⟩) ?_
              refine dg_q (i := 5) rfl (by kernel_rfl) (by kernel_rfl) (by kernel_rfl) [] (by kernel_rfl) (fun _ _ _ h => h) rfl rfl (by decide) (fun _ h => h.upto ⟨rfl, rfl, trivial⟩) (qt_move rfl rfl) ?_
              refine dg_q (i := 6) rfl (by kernel_rfl) (by kernel_rfl) (by kernel_rfl) [] (by kernel_rfl) (fun _ _ _ h => h) rfl rfl (by decide) (fun _ h => h.upto ⟨rfl, rfl, trivial⟩) (qt_extract rfl rfl rfl) ?_
              refine dg_q (i := 7) rfl (by kernel_rfl) (by kernel_rfl) (by kernel_rfl) [] (by kernel_rfl) (fun _ _ _ h => h) rfl rfl (by decide) (fun _ h => h.upto ⟨rfl, rfl, trivial⟩) (qt_extract rfl rfl rfl) ?_
              refine dg_one (i := 8) rfl (by decide) (by kernel_rfl) rfl ?_
              refine op_alloc rfl tyz_impl_Region rfl (by decide) (fun b3 => ?_)
              refine at_rsE (by simp only [List.nil_append, List.cons_append, List.set_cons_zero, List.set_cons_succ, Value.cells, List.toList_toArray]; rfl) ?_
              refine dr_keep (fun _ h => h.upto ⟨rfl, rfl, trivial⟩) ?_
              refine dg_one (i := 9) rfl (by decide) (by kernel_rfl) rfl ?_
              refine op_storeAll' (k := 5) rfl rfl rfl rfl (rfl) (by rfl) tyz_impl_Region.szx rfl rfl rfl ?_
              refine at_rsE (by simp only [List.nil_append, List.cons_append, List.set_cons_zero, List.set_cons_succ, Value.cells, List.toList_toArray]; rfl) ?_
              refine dr_keep (fun _ h => h.upto ⟨rfl, rfl, trivial⟩) ?_
              refine dg_q (i := 10) rfl (by kernel_rfl) (by kernel_rfl) (by kernel_rfl) [] (by kernel_rfl) (fun _ _ _ h => h) rfl rfl (by decide) (fun _ h => h.upto ⟨rfl, rfl, trivial⟩) (qt_assign rfl rfl) ?_
              refine dg_done (by kernel_rfl) ?_
              refine norm_then ?_
              exact at_meetX hC_cut_8 ((((tg, tlo, thi), (tg2, tlo2, thi2)), ((wA, wc), wlo, whi), b3)) (trivial) ⟨rfl, rfl, rfl, rfl, rfl, trivial⟩ (fun _ h => h.picks [0, 1, 2, 3, 4, 5] (by decide))
            · refine op_alloc rfl tyz_impl_Region rfl (by decide) (fun b4 => ?_)
              refine at_rsE (by simp only [List.nil_append, List.cons_append, List.set_cons_zero, List.set_cons_succ, Value.cells, List.toList_toArray]; rfl) ?_
              refine dr_keep (fun _ h => h.upto ⟨rfl, rfl, trivial⟩) ?_
              refine dg_one (i := 4) rfl (by decide) (by kernel_rfl) rfl ?_
              refine op_call ok_spec_JoinRegions (X := (Option Addr × Nat) × Nat × Nat) (v := fun x => .tuple #[regV x.1.1 _ x.1.2, .int .i64 _]) (r := fun x => gegR _ _ x.2.1 x.2.2 x.1.1) (H := fun _ => True) rfl rfl rfl (by decide) (fun w1 hs => gegCode (specJoinRegions_any _ _ n n n2 n2 rs ss w1 (gegRings (k := 2) rfl w1 hs) (gegRings (k := 3) rfl w1 hs) (Int.le_trans ht (by decide)) (Int.le_trans ht2 (by decide)))) ?_
              rintro ⟨⟨wA, wc⟩, wlo, whi⟩ -
              refine at_rsE (by simp only [List.nil_append, List.cons_append, List.set_cons_zero, List.set_cons_succ, Value.cells, List.toList_toArray]; rfl) ?_
              refine dr_keep (fun _ h => h.upto ⟨rfl, rfl, trivial⟩) ?_
              refine dg_q (i := 5) rfl (by kernel_rfl) (by kernel_rfl) (by kernel_rfl) [] (by kernel_rfl) (fun _ _ _ h => h) rfl rfl (by decide) (fun _ h => h.upto ⟨rfl, rfl, trivial⟩) (qt_move rfl rfl) ?_
              refine dg_q (i := 6) rfl (by kernel_rfl) (by kernel_rfl) (by kernel_rfl) [] (by kernel_rfl) (fun _ _ _ h => h) rfl rfl (by decide) (fun _ h => h.upto ⟨rfl, rfl, trivial⟩) (qt_extract rfl rfl rfl) ?_
              refine dg_q (i := 7) rfl (by kernel_rfl) (by kernel_rfl) (by kernel_rfl) [] (by kernel_rfl) (fun _ _ _ h => h) rfl rfl (by decide) (fun _ h => h.upto ⟨rfl, rfl, trivial⟩) (qt_extract rfl rfl rfl) ?_
              refine dg_one (i := 9) rfl (by decide) (by kernel_rfl) rfl ?_
              refine op_storeAll' (k := 4) rfl rfl rfl rfl (rfl) (by rfl) tyz_impl_Region.szx rfl rfl rfl ?_
              refine at_rsE (by simp only [List.nil_append, List.cons_append, List.set_cons_zero, List.set_cons_succ, Value.cells, List.toList_toArray]; rfl) ?_
              refine dr_keep (fun _ h => h.upto ⟨rfl, rfl, trivial⟩) ?_
              refine dg_q (i := 10) rfl (by kernel_rfl) (by kernel_rfl) (by kernel_rfl) [] (by kernel_rfl) (fun _ _ _ h => h) rfl rfl (by decide) (fun _ h => h.upto ⟨rfl, rfl, trivial⟩) (qt_assign rfl rfl) ?_
              refine dg_done (by kernel_rfl) ?_
              refine norm_then ?_
              exact at_meetX hC_cut_8 ((((tg, tlo, thi), (tg2, tlo2, thi2)), ((wA, wc), wlo, whi), b4)) (trivial) ⟨rfl, rfl, rfl, rfl, rfl, trivial⟩ (fun _ h => h.picks [0, 1, 2, 3, 5, 4] (by decide))
          · refine op_alloc rfl tyz_impl_Region rfl (by decide) (fun b5 => ?_)
            refine at_rsE (by simp only [List.nil_append, List.cons_append, List.set_cons_zero, List.set_cons_succ, Value.cells, List.toList_toArray]; rfl) ?_
            refine dr_keep (fun _ h => h.upto ⟨rfl, rfl, trivial⟩) ?_
            refine dg_one (i := 3) rfl (by decide) (by kernel_rfl) rfl ?_
            refine op_call ok_laws_toRegion (X := Nat × Nat × Nat) (v := fun x => regV (some ⟨x.1, 0, none⟩) n2 n2) (r := fun x => gegR n2 ss x.2.1 x.2.2 (some ⟨x.1, 0, none⟩)) (H := fun _ => True) rfl rfl rfl (by decide) (fun w1 hs => gegNew1 (toRegion_new A2 n2 c2_ ss w1 (h2.over hs.fin) ht2)) ?_
            rintro ⟨tg2, tlo2, thi2⟩ -
            refine at_rsE (by simp only [List.nil_append, List.cons_append, List.set_cons_zero, List.set_cons_succ, Value.cells, List.toList_toArray]; rfl) ?_
            refine dr_keep (fun _ h => h.upto ⟨rfl, rfl, trivial⟩) ?_
            refine dg_one (i := 4) rfl (by decide) (by kernel_rfl) rfl ?_
            refine op_call ok_spec_JoinRegions (X := (Option Addr × Nat) × Nat × Nat) (v := fun x => .tuple #[regV x.1.1 _ x.1.2, .int .i64 _]) (r := fun x => gegR _ _ x.2.1 x.2.2 x.1.1) (H := fun _ => True) rfl rfl rfl (by decide) (fun w1 hs => gegCode (specJoinRegions_any _ _ n n n2 n2 rs ss w1 (gegRings (k := 2) rfl w1 hs) (gegRings (k := 4) rfl w1 hs) (Int.le_trans ht (by decide)) (Int.le_trans ht2 (by decide)))) ?_
            rintro ⟨⟨wA, wc⟩, wlo, whi⟩ -
            refine at_rsE (by simp only [List.nil_append, List.cons_append, List.set_cons_zero, List.set_cons_succ, Value.cells, List.toList_toArray]; rfl) ?_
            refine dr_keep (fun _ h => h.upto ⟨rfl, rfl, trivial⟩) ?_
            refine dg_q (i := 5) rfl (by kernel_rfl) (by kernel_rfl) (by kernel_rfl) [] (by kernel_rfl) (fun _ _ _ h => h) rfl rfl (by decide) (fun _ h => h.upto ⟨rfl, rfl, trivial⟩) (qt_move rfl rfl) ?_
            refine dg_q (i := 6) rfl (by kernel_rfl) (by kernel_rfl) (by kernel_rfl) [] (by kernel_rfl) (fun _ _ _ h => h) rfl rfl (by decide) (fun _ h => h.upto ⟨rfl, rfl, trivial⟩) (qt_extract rfl rfl rfl) ?_
            refine dg_q (i := 7) rfl (by kernel_rfl) (by kernel_rfl) (by kernel_rfl) [] (by kernel_rfl) (fun _ _ _ h => h) rfl rfl (by decide) (fun _ h => h.upto ⟨rfl, rfl, trivial⟩) (qt_extract rfl rfl rfl) ?_
            refine dg_one (i := 9) rfl (by decide) (by kernel_rfl) rfl ?_
            refine op_storeAll' (k := 3) rfl rfl rfl rfl (rfl) (by rfl) tyz_impl_Region.szx rfl rfl rfl ?_
            refine at_rsE (by simp only [List.nil_append, List.cons_append, List.set_cons_zero, List.set_cons_succ, Value.cells, List.toList_toArray]; rfl) ?_
            refine dr_keep (fun _ h => h.upto ⟨rfl, rfl, trivial⟩) ?_
            refine dg_q (i := 10) rfl (by kernel_rfl) (by kernel_rfl) (by kernel_rfl) [] (by kernel_rfl) (fun _ _ _ h => h) rfl rfl (by decide) (fun _ h => h.upto ⟨rfl, rfl, trivial⟩) (qt_assign rfl rfl) ?_
            refine dg_done (by kernel_rfl) ?_
            refine norm_then ?_
            exact at_meetX hC_cut_8 ((((tg, tlo, thi), (tg2, tlo2, thi2)), ((wA, wc), wlo, whi), b5)) (trivial) ⟨rfl, rfl, rfl, rfl, rfl, trivial⟩ (fun _ h => h.picks [0, 1, 2, 4, 5, 3] (by decide))
        · refine op_alloc rfl tyz_impl_Region rfl (by decide) (fun b6 => ?_)
          refine at_rsE (by simp only [List.nil_append, List.cons_append, List.set_cons_zero, List.set_cons_succ, Value.cells, List.toList_toArray]; rfl) ?_
          refine dr_keep (fun _ h => h.upto ⟨rfl, rfl, trivial⟩) ?_
          refine dg_one (i := 1) rfl (by decide) (by kernel_rfl) rfl ?_
          refine op_call ok_laws_toRegion (X := Nat × Nat × Nat) (v := fun x => regV (some ⟨x.1, 0, none⟩) n n) (r := fun x => gegR n rs x.2.1 x.2.2 (some ⟨x.1, 0, none⟩)) (H := fun _ => True) rfl rfl rfl (by decide) (fun w1 hs => gegNew1 (toRegion_new A n c rs w1 (h.over hs.fin) ht)) ?_
          rintro ⟨tg, tlo, thi⟩ -
          refine at_rsE (by simp only [List.nil_append, List.cons_append, List.set_cons_zero, List.set_cons_succ, Value.cells, List.toList_toArray]; rfl) ?_
          refine dr_keep (fun _ h => h.upto ⟨rfl, rfl, trivial⟩) ?_
          refine dg_one (i := 3) rfl (by decide) (by kernel_rfl) rfl ?_
          refine op_call ok_laws_toRegion (X := Nat × Nat × Nat) (v := fun x => regV (some ⟨x.1, 0, none⟩) n2 n2) (r := fun x => gegR n2 ss x.2.1 x.2.2 (some ⟨x.1, 0, none⟩)) (H := fun _ => True) rfl rfl rfl (by decide) (fun w1 hs => gegNew1 (toRegion_new A2 n2 c2_ ss w1 (h2.over hs.fin) ht2)) ?_
          rintro ⟨tg2, tlo2, thi2⟩ -
          refine at_rsE (by simp only [List.nil_append, List.cons_append, List.set_cons_zero, List.set_cons_succ, Value.cells, List.toList_toArray]; rfl) ?_
          refine dr_keep (fun _ h => h.upto ⟨rfl, rfl, trivial⟩) ?_
          refine dg_one (i := 4) rfl (by decide) (by kernel_rfl) rfl ?_
          refine op_call ok_spec_JoinRegions (X := (Option Addr × Nat) × Nat × Nat) (v := fun x => .tuple #[regV x.1.1 _ x.1.2, .int .i64 _]) (r := fun x => gegR _ _ x.2.1 x.2.2 x.1.1) (H := fun _ => True) rfl rfl rfl (by decide) (fun w1 hs => gegCode (specJoinRegions_any _ _ n n n2 n2 rs ss w1 (gegRings (k := 3) rfl w1 hs) (gegRings (k := 4) rfl w1 hs) (Int.le_trans ht (by decide)) (Int.le_trans ht2 (by decide)))) ?_
          rintro ⟨⟨wA, wc⟩, wlo, whi⟩ -
          refine at_rsE (by simp only [List.nil_append, List.cons_append, List.set_cons_zero, List.set_cons_succ, Value.cells, List.toList_toArray]; rfl) ?_
          refine dr_keep (fun _ h => h.upto ⟨rfl, rfl, trivial⟩) ?_
          refine dg_q (i := 5) rfl (by kernel_rfl) (by kernel_rfl) (by kernel_rfl) [] (by kernel_rfl) (fun _ _ _ h => h) rfl rfl (by decide) (fun _ h => h.upto ⟨rfl, rfl, trivial⟩) (qt_move rfl rfl) ?_
          refine dg_q (i := 6) rfl (by kernel_rfl) (by kernel_rfl) (by kernel_rfl) [] (by kernel_rfl) (fun _ _ _ h => h) rfl rfl (by decide) (fun _ h => h.upto ⟨rfl, rfl, trivial⟩) (qt_extract rfl rfl rfl) ?_
          refine dg_q (i := 7) rfl (by kernel_rfl) (by kernel_rfl) (by kernel_rfl) [] (by kernel_rfl) (fun _ _ _ h => h) rfl rfl (by decide) (fun _ h => h.upto ⟨rfl, rfl, trivial⟩) (qt_extract rfl rfl rfl) ?_
          refine dg_one (i := 9) rfl (by decide) (by kernel_rfl) rfl ?_
          refine op_storeAll' (k := 2) rfl rfl rfl rfl (rfl) (by rfl) tyz_impl_Region.szx rfl rfl rfl ?_
          refine at_rsE (by simp only [List.nil_append, List.cons_append, List.set_cons_zero, List.set_cons_succ, Value.cells, List.toList_toArray]; rfl) ?_
          refine dr_keep (fun _ h => h.upto ⟨rfl, rfl, trivial⟩) ?_
          refine dg_q (i := 10) rfl (by kernel_rfl) (by kernel_rfl) (by kernel_rfl) [] (by kernel_rfl) (fun _ _ _ h => h) rfl rfl (by decide) (fun _ h => h.upto ⟨rfl, rfl, trivial⟩) (qt_assign rfl rfl) ?_
          refine dg_done (by kernel_rfl) ?_
          refine norm_then ?_
          exact at_meetX hC_cut_8 ((((tg, tlo, thi), (tg2, tlo2, thi2)), ((wA, wc), wlo, whi), b6)) (trivial) ⟨rfl, rfl, rfl, rfl, rfl, trivial⟩ (fun _ h => h.picks [0, 1, 3, 4, 5, 2] (by decide))
      · rintro ⟨⟨⟨tg, tlo, thi⟩, ⟨tg2, tlo2, thi2⟩⟩, ⟨⟨wA, wc⟩, wlo, whi⟩, bw⟩ -
        refine at_envE (by simp only [List.nil_append, List.cons_append]; rfl) ?_
        refine at_rsE (by first | (dsimp only; done) | (dsimp only; rfl) | rfl) ?_
        refine at_seq ?_
        refine at_region ?_
        refine at_q rfl rfl (by decide) (qt_loadS rfl rfl tys_laws_Region rfl (rdAll (k := 0) rfl)) ?_
        refine at_op rfl ?_
        refine op_call ok_laws_toRegion (X := Nat × Nat × Nat) (v := fun x => regV (some ⟨x.1, 0, none⟩) n n) (r := fun x => gegR n rs x.2.1 x.2.2 (some ⟨x.1, 0, none⟩)) (H := fun _ => True) rfl rfl rfl (by decide) (fun w1 hs => gegNew1 (toRegion_new A n c rs w1 (h.over hs.fin) ht)) ?_
        rintro ⟨xg, xlo, xhi⟩ -
        refine at_rsE (by simp only [List.nil_append, List.cons_append, List.set_cons_zero, List.set_cons_succ, Value.cells, List.toList_toArray]; rfl) ?_
        refine at_op rfl ?_
        refine op_alloc rfl tyz_impl_Region rfl (by decide) (fun b7 => ?_)
        refine at_rsE (by simp only [List.nil_append, List.cons_append, List.set_cons_zero, List.set_cons_succ, Value.cells, List.toList_toArray]; rfl) ?_
        refine at_op rfl ?_
        refine op_storeAll' (k := 7) rfl rfl rfl rfl (rfl) (by rfl) tyz_impl_Region.szx rfl rfl rfl ?_
        refine at_rsE (by simp only [List.nil_append, List.cons_append, List.set_cons_zero, List.set_cons_succ, Value.cells, List.toList_toArray]; rfl) ?_
        refine at_end ?_
        refine at_seq ?_
        refine at_region ?_
        refine at_q rfl rfl (by decide) (qt_loadS rfl rfl tys_laws_Region rfl (rdAll (k := 1) rfl)) ?_
        refine at_op rfl ?_
        refine op_call ok_laws_toRegion (X := Nat × Nat × Nat) (v := fun x => regV (some ⟨x.1, 0, none⟩) n2 n2) (r := fun x => gegR n2 ss x.2.1 x.2.2 (some ⟨x.1, 0, none⟩)) (H := fun _ => True) rfl rfl rfl (by decide) (fun w1 hs => gegNew1 (toRegion_new A2 n2 c2_ ss w1 (h2.over hs.fin) ht2)) ?_
        rintro ⟨yg, ylo, yhi⟩ -
        refine at_rsE (by simp only [List.nil_append, List.cons_append, List.set_cons_zero, List.set_cons_succ, Value.cells, List.toList_toArray]; rfl) ?_
        refine at_op rfl ?_
        refine op_alloc rfl tyz_impl_Region rfl (by decide) (fun b8 => ?_)
        refine at_rsE (by simp only [List.nil_append, List.cons_append, List.set_cons_zero, List.set_cons_succ, Value.cells, List.toList_toArray]; rfl) ?_
        refine at_op rfl ?_
        refine op_storeAll' (k := 9) rfl rfl rfl rfl (rfl) (by rfl) tyz_impl_Region.szx rfl rfl rfl ?_
        refine at_rsE (by simp only [List.nil_append, List.cons_append, List.set_cons_zero, List.set_cons_succ, Value.cells, List.toList_toArray]; rfl) ?_
        refine at_end ?_
        refine at_seq ?_
        refine at_region ?_
        refine at_q rfl rfl (by decide) (qt_loadS rfl rfl tys_impl_Region rfl (rdAll (k := 7) rfl)) ?_
        refine at_q rfl rfl (by decide) (qt_loadS rfl rfl tys_impl_Region rfl (rdAll (k := 9) rfl)) ?_
        refine at_op rfl ?_
        refine op_call ok_impl_JoinRegions (X := (Option Addr × Nat) × Nat × Nat) (v := fun x => .tuple #[regV x.1.1 _ x.1.2, .int .i64 _]) (r := fun x => gegR _ _ x.2.1 x.2.2 x.1.1) (H := fun _ => True) rfl rfl rfl (by decide) (fun w1 hs => gegCode (JoinRegions_any _ _ n n n2 n2 rs ss w1 (gegRings (k := 6) rfl w1 hs) (gegRings (k := 8) rfl w1 hs) (Int.le_trans ht (by decide)) (Int.le_trans ht2 (by decide)))) ?_
        rintro ⟨⟨gA, gc⟩, glo, ghi⟩ -
        refine at_rsE (by simp only [List.nil_append, List.cons_append, List.set_cons_zero, List.set_cons_succ, Value.cells, List.toList_toArray]; rfl) ?_
        refine at_q rfl rfl (by decide) (qt_move rfl rfl) ?_
        refine at_q rfl rfl (by decide) (qt_extract rfl rfl rfl) ?_
        refine at_q rfl rfl (by decide) (qt_extract rfl rfl rfl) ?_
        refine at_op rfl ?_
        refine op_alloc rfl tyz_impl_Region rfl (by decide) (fun b9 => ?_)
        refine at_rsE (by simp only [List.nil_append, List.cons_append, List.set_cons_zero, List.set_cons_succ, Value.cells, List.toList_toArray]; rfl) ?_
        refine at_op rfl ?_
        refine op_storeAll' (k := 11) rfl rfl rfl rfl (rfl) (by rfl) tyz_impl_Region.szx rfl rfl rfl ?_
        refine at_rsE (by simp only [List.nil_append, List.cons_append, List.set_cons_zero, List.set_cons_succ, Value.cells, List.toList_toArray]; rfl) ?_
        refine at_q rfl rfl (by decide) (qt_assign rfl rfl) ?_
        refine at_end ?_
        refine at_seq ?_
        refine at_seq ?_
        refine at_region ?_
        refine at_q rfl rfl (by decide) (qt_loadS rfl rfl tys_impl_Region rfl (rdAll (k := 11) rfl)) ?_
        refine at_q rfl rfl (by decide) (qt_loadS rfl rfl tys_impl_Region rfl (rdAll (k := 5) rfl)) ?_
        refine at_q rfl rfl (by decide) (qt_call ok_laws_eqRegion rfl rfl (fun w1 hs => eqRegion_same _ _ _ _ _ (jnR rs ss) w1 (gegRings (k := 10) rfl w1 hs) (gegRings (k := 4) rfl w1 hs) hst)) ?_
        refine at_q rfl rfl (by decide) (qt_not rfl rfl) ?_
        refine at_q rfl rfl (by decide) (qt_move rfl rfl) ?_
        refine at_as 49 (.bool false) rfl (by rw [notTrue]) ?_
        refine at_on rfl rfl rfl rfl ?_
        refine op_q rfl (by decide) (qt_move rfl rfl) ?_
        refine at_on rfl rfl rfl rfl ?_
        refine op_q rfl (by decide) (qt_move rfl rfl) ?_
        refine at_on rfl rfl rfl rfl ?_
        refine op_q rfl (by decide) (qt_neq rfl rfl rfl) ?_
        refine at_q rfl rfl (by decide) (qt_pickF rfl rfl rfl) ?_
        refine at_end ?_
        refine at_no rfl (neSelf _) ?_
        refine at_skip ?_
        refine norm_then ?_
        refine at_seq ?_
        refine at_seq ?_
        refine dg_start mixed rfl ?_
        refine dg_phase 5 ?_
        refine dg_q (i := 0) rfl (by kernel_rfl) (by kernel_rfl) (by kernel_rfl) [] (by kernel_rfl) (fun _ _ _ h => h) rfl rfl (by decide) (fun _ h => h.upto ⟨rfl, rfl, rfl, rfl, rfl, rfl, rfl, rfl, rfl, rfl, rfl, rfl, trivial⟩) (qt_loadS rfl rfl tys_impl_Region rfl (rdAll (k := 7) rfl)) ?_
        refine dg_q (i := 1) rfl (by kernel_rfl) (by kernel_rfl) (by kernel_rfl) [] (by kernel_rfl) (fun _ _ _ h => h) rfl rfl (by decide) (fun _ h => h.upto ⟨rfl, rfl, rfl, rfl, rfl, rfl, rfl, rfl, rfl, rfl, rfl, rfl, trivial⟩) (qt_loadS rfl rfl tys_laws_Region rfl (rdAll (k := 0) rfl)) ?_
        refine dg_one (i := 2) rfl (by decide) (by kernel_rfl) rfl ?_
        refine op_call ok_laws_toRegion (X := Nat × Nat × Nat) (v := fun x => regV (some ⟨x.1, 0, none⟩) n n) (r := fun x => gegR n rs x.2.1 x.2.2 (some ⟨x.1, 0, none⟩)) (H := fun _ => True) rfl rfl rfl (by decide) (fun w1 hs => gegNew1 (toRegion_new A n c rs w1 (h.over hs.fin) ht)) ?_
        rintro ⟨ug, ulo, uhi⟩ -
        refine at_rsE (by simp only [List.nil_append, List.cons_append, List.set_cons_zero, List.set_cons_succ, Value.cells, List.toList_toArray]; rfl) ?_
        refine dr_more (fun _ h => h.upto ⟨rfl, rfl, rfl, rfl, rfl, rfl, rfl, rfl, rfl, rfl, rfl, rfl, trivial⟩) ?_
        refine dg_q (i := 3) rfl (by kernel_rfl) (by kernel_rfl) (by kernel_rfl) [] (by kernel_rfl) (fun _ _ _ h => h) rfl rfl (by decide) (fun _ h => h.upto ⟨rfl, rfl, rfl, rfl, rfl, rfl, rfl, rfl, rfl, rfl, rfl, rfl, rfl, trivial⟩) (qt_call ok_laws_eqRegion rfl rfl (fun w1 hs => eqRegion_same _ _ _ _ _ rs w1 (gegRings (k := 6) rfl w1 hs) (gegRings (k := 12) rfl w1 hs) ht)) ?_
        refine dg_q (i := 4) rfl (by kernel_rfl) (by kernel_rfl) (by kernel_rfl) [] (by kernel_rfl) (fun _ _ _ h => h) rfl rfl (by decide) (fun _ h => h.upto ⟨rfl, rfl, rfl, rfl, rfl, rfl, rfl, rfl, rfl, rfl, rfl, rfl, rfl, trivial⟩) (qt_not rfl rfl) ?_
        refine dg_done (by kernel_rfl) ?_
        refine norm_then ?_
        refine at_no rfl (rfl) ?_
        refine at_skip ?_
        refine norm_then ?_
        refine at_seq ?_
        refine at_seq ?_
        refine dg_start mixed rfl ?_
        refine dg_phase 5 ?_
        refine dg_q (i := 0) rfl (by kernel_rfl) (by kernel_rfl) (by kernel_rfl) [] (by kernel_rfl) (fun _ _ _ h => h) rfl rfl (by decide) (fun _ h => h.upto ⟨rfl, rfl, rfl, rfl, rfl, rfl, rfl, rfl, rfl, rfl, rfl, rfl, rfl, trivial⟩) (qt_loadS rfl rfl tys_impl_Region rfl (rdAll (k := 9) rfl)) ?_
        refine dg_q (i := 1) rfl (by kernel_rfl) (by kernel_rfl) (by kernel_rfl) [] (by kernel_rfl) (fun _ _ _ h => h) rfl rfl (by decide) (fun _ h => h.upto ⟨rfl, rfl, rfl, rfl, rfl, rfl, rfl, rfl, rfl, rfl, rfl, rfl, rfl, trivial⟩) (qt_loadS rfl rfl tys_laws_Region rfl (rdAll (k := 1) rfl)) ?_
        refine dg_one (i := 2) rfl (by decide) (by kernel_rfl) rfl ?_
        refine op_call ok_laws_toRegion (X := Nat × Nat × Nat) (v := fun x => regV (some ⟨x.1, 0, none⟩) n2 n2) (r := fun x => gegR n2 ss x.2.1 x.2.2 (some ⟨x.1, 0, none⟩)) (H := fun _ => True) rfl rfl rfl (by decide) (fun w1 hs => gegNew1 (toRegion_new A2 n2 c2_ ss w1 (h2.over hs.fin) ht2)) ?_
        rintro ⟨vg, vlo, vhi⟩ -
        refine at_rsE (by simp only [List.nil_append, List.cons_append, List.set_cons_zero, List.set_cons_succ, Value.cells, List.toList_toArray]; rfl) ?_
        refine dr_more (fun _ h => h.upto ⟨rfl, rfl, rfl, rfl, rfl, rfl, rfl, rfl, rfl, rfl, rfl, rfl, rfl, trivial⟩) ?_
        refine dg_q (i := 3) rfl (by kernel_rfl) (by kernel_rfl) (by kernel_rfl) [] (by kernel_rfl) (fun _ _ _ h => h) rfl rfl (by decide) (fun _ h => h.upto ⟨rfl, rfl, rfl, rfl, rfl, rfl, rfl, rfl, rfl, rfl, rfl, rfl, rfl, rfl, trivial⟩) (qt_call ok_laws_eqRegion rfl rfl (fun w1 hs => eqRegion_same _ _ _ _ _ ss w1 (gegRings (k := 8) rfl w1 hs) (gegRings (k := 13) rfl w1 hs) ht2)) ?_
        refine dg_q (i := 4) rfl (by kernel_rfl) (by kernel_rfl) (by kernel_rfl) [] (by kernel_rfl) (fun _ _ _ h => h) rfl rfl (by decide) (fun _ h => h.upto ⟨rfl, rfl, rfl, rfl, rfl, rfl, rfl, rfl, rfl, rfl, rfl, rfl, rfl, rfl, trivial⟩) (qt_not rfl rfl) ?_
        refine dg_done (by kernel_rfl) ?_
        refine norm_then ?_
        refine at_no rfl (rfl) ?_
        refine at_skip ?_
        refine norm_then ?_
        refine at_seq ?_
        refine at_region ?_
        refine at_q rfl rfl (by decide) (qt_assign rfl rfl) ?_
        refine at_end ?_
        refine at_seq ?_
        refine at_region ?_
        refine at_q rfl rfl (by decide) (qt_loadS rfl rfl tys_impl_Region rfl (rdAll (k := 7) rfl)) ?_
        refine at_q rfl rfl (by decide) (qt_move rfl rfl) ?_
        refine at_op rfl ?_
        refine op_callw (k := 6) (r' := gegR n (marksR _ rs) _ _ _) ok_laws_markRegion rfl rfl rfl (by decide) rfl (fun w1 hs => markGegM 0 (gegS (k := 6) rfl w1 hs) (gegH (k := 6) rfl w1 hs) (by omega) (by omega)) (fun _ h => h) rfl ?_
        refine at_rsE (by simp only [List.nil_append, List.cons_append, List.set_cons_zero, List.set_cons_succ, Value.cells, List.toList_toArray]; rfl) ?_
        refine at_q rfl rfl (by decide) (qt_assign rfl rfl) ?_
        refine at_end ?_
        refine at_seq ?_
        refine at_region ?_
        refine at_q rfl rfl (by decide) (qt_loadS rfl rfl tys_impl_Region rfl (rdAll (k := 9) rfl)) ?_
        refine at_q rfl rfl (by decide) (qt_move rfl rfl) ?_
        refine at_op rfl ?_
        refine op_callw (k := 8) (r' := gegR n2 (marksR _ ss) _ _ _) ok_laws_markRegion rfl rfl rfl (by decide) rfl (fun w1 hs => markGegM _ (gegS (k := 8) rfl w1 hs) (gegH (k := 8) rfl w1 hs) (by omega) (by omega)) (fun _ h => h) rfl ?_
        refine at_rsE (by simp only [List.nil_append, List.cons_append, List.set_cons_zero, List.set_cons_succ, Value.cells, List.toList_toArray]; rfl) ?_
        refine at_q rfl rfl (by decide) (qt_assign rfl rfl) ?_
        refine at_end ?_
        refine at_seq ?_
        refine at_seq ?_
        refine at_region ?_
        refine at_q rfl rfl (by decide) (qt_move rfl rfl) ?_
        refine at_q rfl rfl (by decide) (qt_lss rfl rfl rfl) ?_
        refine at_q rfl rfl (by decide) (qt_move rfl rfl) ?_
        refine at_as 72 (.bool false) rfl (by rw [(posF _)]) ?_
        refine at_on rfl rfl rfl rfl ?_
        refine op_q rfl (by decide) (qt_loadS rfl rfl tys_impl_Region rfl (rdAll (k := 11) rfl)) ?_
        refine at_on rfl rfl rfl rfl ?_
        refine op_q rfl (by decide) (qt_loadS rfl rfl tys_impl_Region rfl (rdAll (k := 5) rfl)) ?_
        refine at_on rfl rfl rfl rfl ?_
        refine op_q rfl (by decide) (qt_call ok_laws_eqRegion rfl rfl (fun w1 hs => eqRegion_same _ _ _ _ _ (jnR rs ss) w1 (gegRings (k := 10) rfl w1 hs) (gegRings (k := 4) rfl w1 hs) hst)) ?_
        refine at_on rfl rfl rfl rfl ?_
        refine op_q rfl (by decide) (qt_not rfl rfl) ?_
        refine at_q rfl rfl (by decide) (qt_pickF rfl rfl rfl) ?_
        refine at_q rfl rfl (by decide) (qt_move rfl rfl) ?_
        refine at_as 78 (.bool false) rfl (by rw [notTrue]) ?_
        refine at_on rfl rfl rfl rfl ?_
        refine op_q rfl (by decide) (qt_move rfl rfl) ?_
        refine at_on rfl rfl rfl rfl ?_
        refine op_q rfl (by decide) (qt_move rfl rfl) ?_
        refine at_on rfl rfl rfl rfl ?_
        refine op_q rfl (by decide) (qt_neq rfl rfl rfl) ?_
        refine at_q rfl rfl (by decide) (qt_pickF rfl rfl rfl) ?_
        refine at_end ?_
        refine at_no rfl (neSelf _) ?_
        refine at_skip ?_
        refine norm_then ?_
        refine at_seq ?_
        refine at_region ?_
        refine at_q rfl rfl (by decide) (qt_assign rfl rfl) ?_
        refine at_end ?_
        refine at_seq ?_
        refine at_region ?_
        refine at_q rfl rfl (by decide) (qt_loadS rfl rfl tys_impl_Region rfl (rdAll (k := 11) rfl)) ?_
        refine at_q rfl rfl (by decide) (qt_move rfl rfl) ?_
        refine at_op rfl ?_
        refine op_callw (k := 10) (r' := gegR _ (marksR 1 (jnR rs ss)) _ _ _) ok_laws_markRegion rfl rfl rfl (by decide) rfl (fun w1 hs => markGeg (gegS (k := 10) rfl w1 hs) (gegH (k := 10) rfl w1 hs) hss) (fun _ h => h) rfl ?_
        refine at_rsE (by simp only [List.nil_append, List.cons_append, List.set_cons_zero, List.set_cons_succ, Value.cells, List.toList_toArray]; rfl) ?_
        refine at_q rfl rfl (by decide) (qt_assign rfl rfl) ?_
        refine at_end ?_
        refine at_seq ?_
        refine at_region ?_
        refine at_q rfl rfl (by decide) (qt_assign rfl rfl) ?_
        refine at_end ?_
        refine at_seq ?_
        refine at_region ?_
        refine at_q rfl rfl (by decide) (qt_loadS rfl rfl tys_impl_Region rfl (rdAll (k := 11) rfl)) ?_
        refine at_q rfl rfl (by decide) (qt_move rfl rfl) ?_
        refine at_q rfl rfl (by decide) (qt_call ok_laws_heldRegion rfl rfl (fun w1 hs => heldGeg (gegRings (k := 10) rfl w1 hs) hss)) ?_
        refine at_q rfl rfl (by decide) (qt_assign rfl rfl) ?_
        refine at_end ?_
        refine at_seq ?_
        refine at_seq ?_
        refine at_region ?_
        refine at_q rfl rfl (by decide) (qt_move rfl rfl) ?_
        refine at_q rfl rfl (by decide) (qt_lss rfl rfl rfl) ?_
        refine at_end ?_
        refine at_no rfl (posF _) ?_
        refine at_skip ?_
        refine norm_then ?_
        refine at_seq ?_
        refine at_seq ?_
        refine at_region ?_
        refine at_q rfl rfl (by decide) (qt_move rfl rfl) ?_
        refine at_q rfl rfl (by decide) (qt_move rfl rfl) ?_
        refine at_q rfl rfl (by decide) (qt_neq rfl rfl rfl) ?_
        refine at_end ?_
        refine at_no rfl (neSelf _) ?_
        refine at_skip ?_
        refine norm_then ?_
        refine at_cutX (X := ((Nat × Nat × Nat) × (Nat × Nat × Nat)) × ((Option Addr × Nat) × Nat × Nat) × Nat) (fun x => True) (fun x => [(15, .pointer (some ⟨x.2.2, 0, none⟩)), (16, .int .i64 (jnC rs ss))]) (C := [(4, _), (6, _), (7, _), (10, _), (13, _), (14, _)]) ⟨rfl, rfl, rfl, rfl, rfl, rfl, trivial⟩ (fun x => [gegR (jnR rs ss).length (jnR rs ss) wlo whi wA, .cel bw 53 [.slice wA (jnR rs ss).length wc], gegR (jnR rs ss).length (marksR 1 (jnR rs ss)) glo ghi gA, .cel b9 53 [.slice gA (jnR rs ss).length gc], gegR n rs x.1.1.2.1 x.1.1.2.2 (some ⟨x.1.1.1, 0, none⟩), gegR n2 ss x.1.2.2.1 x.1.2.2.2 (some ⟨x.1.2.1, 0, none⟩), gegR (jnR rs ss).length (jnR rs ss) x.2.1.2.1 x.2.1.2.2 x.2.1.1.1, .cel x.2.2 53 [.slice x.2.1.1.1 (jnR rs ss).length x.2.1.1.2]]) (fun L hC_cut_31 => ?_) ?_
        · refine dg_start mixed rfl ?_
          refine dg_phase 11 ?_
          refine dg_q (i := 0) rfl (by kernel_rfl) (by kernel_rfl) (by kernel_rfl) [] (by kernel_rfl) (fun _ _ _ h => h) rfl rfl (by decide) (fun _ h => h.upto ⟨rfl, rfl, rfl, rfl, rfl, rfl, rfl, rfl, rfl, rfl, rfl, rfl, rfl, rfl, trivial⟩) (qt_loadS rfl rfl tys_laws_Region rfl (rdAll (k := 0) rfl)) ?_
          refine dg_q (i := 2) rfl (by kernel_rfl) (by kernel_rfl) (by kernel_rfl) [] (by kernel_rfl) (fun _ _ _ h => h) rfl rfl (by decide) (fun _ h => h.upto ⟨rfl, rfl, rfl, rfl, rfl, rfl, rfl, rfl, rfl, rfl, rfl, rfl, rfl, rfl, trivial⟩) (qt_loadS rfl rfl tys_laws_Region rfl (rdAll (k := 1) rfl)) ?_
          refine dg_two (i := 1) (j := 8) rfl rfl (by decide) (by decide) (by kernel_rfl) rfl rfl ?_ ?_
          · refine op_call ok_laws_toRegion (X := Nat × Nat × Nat) (v := fun x => regV (some ⟨x.1, 0, none⟩) n n) (r := fun x => gegR n rs x.2.1 x.2.2 (some ⟨x.1, 0, none⟩)) (H := fun _ => True) rfl rfl rfl (by decide) (fun w1 hs => gegNew1 (toRegion_new A n c rs w1 (h.over hs.fin) ht)) ?_
            rintro ⟨pg, plo, phi⟩ -
            refine at_rsE (by simp only [List.nil_append, List.cons_append, List.set_cons_zero, List.set_cons_succ, Value.cells, List.toList_toArray]; rfl) ?_
            refine dr_keep (fun _ h => h.upto ⟨rfl, rfl, rfl, rfl, rfl, rfl, rfl, rfl, rfl, rfl, rfl, rfl, rfl, rfl, trivial⟩) ?_
            refine dg_two (i := 3) (j := 8) rfl rfl (by decide) (by decide) (by kernel_rfl) rfl rfl ?_ ?_
            · refine op_call ok_laws_toRegion (X := Nat × Nat × Nat) (v := fun x => regV (some ⟨x.1, 0, none⟩) n2 n2) (r := fun x => gegR n2 ss x.2.1 x.2.2 (some ⟨x.1, 0, none⟩)) (H := fun _ => True) rfl rfl rfl (by decide) (fun w1 hs => gegNew1 (toRegion_new A2 n2 c2_ ss w1 (h2.over hs.fin) ht2)) ?_
              rintro ⟨qg, qlo, qhi⟩ -
              refine at_rsE (by simp only [List.nil_append, List.cons_append, List.set_cons_zero, List.set_cons_succ, Value.cells, List.toList_toArray]; rfl) ?_
              refine dr_keep (fun _ h => h.upto ⟨rfl, rfl, rfl, rfl, rfl, rfl, rfl, rfl, rfl, rfl, rfl, rfl, rfl, rfl, trivial⟩) ?_
              refine dg_two (i := 4) (j := 8) rfl rfl (by decide) (by decide) (by kernel_rfl) rfl rfl ?_ ?_
              · refine op_call ok_impl_JoinRegions (X := (Option Addr × Nat) × Nat × Nat) (v := fun x => .tuple #[regV x.1.1 _ x.1.2, .int .i64 _]) (r := fun x => gegR _ _ x.2.1 x.2.2 x.1.1) (H := fun _ => True) rfl rfl rfl (by decide) (fun w1 hs => gegCode (JoinRegions_any _ _ n n n2 n2 rs ss w1 (gegRings (k := 14) rfl w1 hs) (gegRings (k := 15) rfl w1 hs) (Int.le_trans ht (by decide)) (Int.le_trans ht2 (by decide)))) ?_
                rintro ⟨⟨hA, hc⟩, hlo, hhi⟩ -
                refine at_rsE (by simp only [List.nil_append, List.cons_append, List.set_cons_zero, List.set_cons_succ, Value.cells, List.toList_toArray]; rfl) ?_
                refine dr_keep (fun _ h => h.upto ⟨rfl, rfl, rfl, rfl, rfl, rfl, rfl, rfl, rfl, rfl, rfl, rfl, rfl, rfl, trivial⟩) ?_
                refine dg_q (i := 5) rfl (by kernel_rfl) (by kernel_rfl) (by kernel_rfl) [] (by kernel_rfl) (fun _ _ _ h => h) rfl rfl (by decide) (fun _ h => h.upto ⟨rfl, rfl, rfl, rfl, rfl, rfl, rfl, rfl, rfl, rfl, rfl, rfl, rfl, rfl, trivial⟩) (qt_move rfl rfl) ?_
                refine dg_q (i := 6) rfl (by kernel_rfl) (by kernel_rfl) (by kernel_rfl) [] (by kernel_rfl) (fun _ _ _ h => h) rfl rfl (by decide) (fun _ h => h.upto ⟨rfl, rfl, rfl, rfl, rfl, rfl, rfl, rfl, rfl, rfl, rfl, rfl, rfl, rfl, trivial⟩) (qt_extract rfl rfl rfl) ?_
                refine dg_q (i := 7) rfl (by kernel_rfl) (by kernel_rfl) (by kernel_rfl) [] (by kernel_rfl) (fun _ _ _ h => h) rfl rfl (by decide) (fun _ h => h.upto ⟨rfl, rfl, rfl, rfl, rfl, rfl, rfl, rfl, rfl, rfl, rfl, rfl, rfl, rfl, trivial⟩) (qt_extract rfl rfl rfl) ?_
                refine dg_one (i := 8) rfl (by decide) (by kernel_rfl) rfl ?_
                refine op_alloc rfl tyz_impl_Region rfl (by decide) (fun b10 => ?_)
                refine at_rsE (by simp only [List.nil_append, List.cons_append, List.set_cons_zero, List.set_cons_succ, Value.cells, List.toList_toArray]; rfl) ?_
                refine dr_keep (fun _ h => h.upto ⟨rfl, rfl, rfl, rfl, rfl, rfl, rfl, rfl, rfl, rfl, rfl, rfl, rfl, rfl, trivial⟩) ?_
                refine dg_one (i := 9) rfl (by decide) (by kernel_rfl) rfl ?_
                refine op_storeAll' (k := 17) rfl rfl rfl rfl (rfl) (by rfl) tyz_impl_Region.szx rfl rfl rfl ?_
                refine at_rsE (by simp only [List.nil_append, List.cons_append, List.set_cons_zero, List.set_cons_succ, Value.cells, List.toList_toArray]; rfl) ?_
                refine dr_keep (fun _ h => h.upto ⟨rfl, rfl, rfl, rfl, rfl, rfl, rfl, rfl, rfl, rfl, rfl, rfl, rfl, rfl, trivial⟩) ?_
                refine dg_q (i := 10) rfl (by kernel_rfl) (by kernel_rfl) (by kernel_rfl) [] (by kernel_rfl) (fun _ _ _ h => h) rfl rfl (by decide) (fun _ h => h.upto ⟨rfl, rfl, rfl, rfl, rfl, rfl, rfl, rfl, rfl, rfl, rfl, rfl, rfl, rfl, trivial⟩) (qt_assign rfl rfl) ?_
                refine dg_done (by kernel_rfl) ?_
                refine norm_then ?_
                exact at_meetX hC_cut_31 ((((pg, plo, phi), (qg, qlo, qhi)), ((hA, hc), hlo, hhi), b10)) (trivial) ⟨rfl, rfl, rfl, rfl, rfl, rfl, rfl, rfl, trivial⟩ (fun _ h => h.picks [4, 5, 10, 11, 14, 15, 16, 17] (by decide))
              · refine op_alloc rfl tyz_impl_Region rfl (by decide) (fun b11 => ?_)
                refine at_rsE (by simp only [List.nil_append, List.cons_append, List.set_cons_zero, List.set_cons_succ, Value.cells, List.toList_toArray]; rfl) ?_
                refine dr_keep (fun _ h => h.upto ⟨rfl, rfl, rfl, rfl, rfl, rfl, rfl, rfl, rfl, rfl, rfl, rfl, rfl, rfl, trivial⟩) ?_
                refine dg_one (i := 4) rfl (by decide) (by kernel_rfl) rfl ?_
                refine op_call ok_impl_JoinRegions (X := (Option Addr × Nat) × Nat × Nat) (v := fun x => .tuple #[regV x.1.1 _ x.1.2, .int .i64 _]) (r := fun x => gegR _ _ x.2.1 x.2.2 x.1.1) (H := fun _ => True) rfl rfl rfl (by decide) (fun w1 hs => gegCode (JoinRegions_any _ _ n n n2 n2 rs ss w1 (gegRings (k := 14) rfl w1 hs) (gegRings (k := 15) rfl w1 hs) (Int.le_trans ht (by decide)) (Int.le_trans ht2 (by decide)))) ?_
                rintro ⟨⟨hA, hc⟩, hlo, hhi⟩ -
                refine at_rsE (by simp only [List.nil_append, List.cons_append, List.set_cons_zero, List.set_cons_succ, Value.cells, List.toList_toArray]; rfl) ?_
                refine dr_keep (fun _ h => h.upto ⟨rfl, rfl, rfl, rfl, rfl, rfl, rfl, rfl, rfl, rfl, rfl, rfl, rfl, rfl, trivial⟩) ?_
                refine dg_q (i := 5) rfl (by kernel_rfl) (by kernel_rfl) (by kernel_rfl) [] (by kernel_rfl) (fun _ _ _ h => h) rfl rfl (by decide) (fun _ h => h.upto ⟨rfl, rfl, rfl, rfl, rfl, rfl, rfl, rfl, rfl, rfl, rfl, rfl, rfl, rfl, trivial⟩) (qt_move rfl rfl) ?_
                refine dg_q (i := 6) rfl (by kernel_rfl) (by kernel_rfl) (by kernel_rfl) [] (by kernel_rfl) (fun _ _ _ h => h) rfl rfl (by decide) (fun _ h => h.upto ⟨rfl, rfl, rfl, rfl, rfl, rfl, rfl, rfl, rfl, rfl, rfl, rfl, rfl, rfl, trivial⟩) (qt_extract rfl rfl rfl) ?_
                refine dg_q (i := 7) rfl (by kernel_rfl) (by kernel_rfl) (by kernel_rfl) [] (by kernel_rfl) (fun _ _ _ h => h) rfl rfl (by decide) (fun _ h => h.upto ⟨rfl, rfl, rfl, rfl, rfl, rfl, rfl, rfl, rfl, rfl, rfl, rfl, rfl, rfl, trivial⟩) (qt_extract rfl rfl rfl) ?_
                refine dg_one (i := 9) rfl (by decide) (by kernel_rfl) rfl ?_
                refine op_storeAll' (k := 16) rfl rfl rfl rfl (rfl) (by rfl) tyz_impl_Region.szx rfl rfl rfl ?_
                refine at_rsE (by simp only [List.nil_append, List.cons_append, List.set_cons_zero, List.set_cons_succ, Value.cells, List.toList_toArray]; rfl) ?_
                refine dr_keep (fun _ h => h.upto ⟨rfl, rfl, rfl, rfl, rfl, rfl, rfl, rfl, rfl, rfl, rfl, rfl, rfl, rfl, trivial⟩) ?_
                refine dg_q (i := 10) rfl (by kernel_rfl) (by kernel_rfl) (by kernel_rfl) [] (by kernel_rfl) (fun _ _ _ h => h) rfl rfl (by decide) (fun _ h => h.upto ⟨rfl, rfl, rfl, rfl, rfl, rfl, rfl, rfl, rfl, rfl, rfl, rfl, rfl, rfl, trivial⟩) (qt_assign rfl rfl) ?_
                refine dg_done (by kernel_rfl) ?_
                refine norm_then ?_
                exact at_meetX hC_cut_31 ((((pg, plo, phi), (qg, qlo, qhi)), ((hA, hc), hlo, hhi), b11)) (trivial) ⟨rfl, rfl, rfl, rfl, rfl, rfl, rfl, rfl, trivial⟩ (fun _ h => h.picks [4, 5, 10, 11, 14, 15, 17, 16] (by decide))
            · refine op_alloc rfl tyz_impl_Region rfl (by decide) (fun b12 => ?_)
              refine at_rsE (by simp only [List.nil_append, List.cons_append, List.set_cons_zero, List.set_cons_succ, Value.cells, List.toList_toArray]; rfl) ?_
              refine dr_keep (fun _ h => h.upto ⟨rfl, rfl, rfl, rfl, rfl, rfl, rfl, rfl, rfl, rfl, rfl, rfl, rfl, rfl, trivial⟩) ?_
              refine dg_one (i := 3) rfl (by decide) (by kernel_rfl) rfl ?_
              refine op_call ok_laws_toRegion (X := Nat × Nat × Nat) (v := fun x => regV (some ⟨x.1, 0, none⟩) n2 n2) (r := fun x => gegR n2 ss x.2.1 x.2.2 (some ⟨x.1, 0, none⟩)) (H := fun _ => True) rfl rfl rfl (by decide) (fun w1 hs => gegNew1 (toRegion_new A2 n2 c2_ ss w1 (h2.over hs.fin) ht2)) ?_
              rintro ⟨qg, qlo, qhi⟩ -
              refine at_rsE (by simp only [List.nil_append, List.cons_append, List.set_cons_zero, List.set_cons_succ, Value.cells, List.toList_toArray]; rfl) ?_
              refine dr_keep (fun _ h => h.upto ⟨rfl, rfl, rfl, rfl, rfl, rfl, rfl, rfl, rfl, rfl, rfl, rfl, rfl, rfl, trivial⟩) ?_
              refine dg_one (i := 4) rfl (by decide) (by kernel_rfl) rfl ?_
              refine op_call ok_impl_JoinRegions (X := (Option Addr × Nat) × Nat × Nat) (v := fun x => .tuple #[regV x.1.1 _ x.1.2, .int .i64 _]) (r := fun x => gegR _ _ x.2.1 x.2.2 x.1.1) (H := fun _ => True) rfl rfl rfl (by decide) (fun w1 hs => gegCode (JoinRegions_any _ _ n n n2 n2 rs ss w1 (gegRings (k := 14) rfl w1 hs) (gegRings (k := 16) rfl w1 hs) (Int.le_trans ht (by decide)) (Int.le_trans ht2 (by decide)))) ?_
              rintro ⟨⟨hA, hc⟩, hlo, hhi⟩ -
              refine at_rsE (by simp only [List.nil_append, List.cons_append, List.set_cons_zero, List.set_cons_succ, Value.cells, List.toList_toArray]; rfl) ?_
              refine dr_keep (fun _ h => h.upto ⟨rfl, rfl, rfl, rfl, rfl, rfl, rfl, rfl, rfl, rfl, rfl, rfl, rfl, rfl, trivial⟩) ?_
              refine dg_q (i := 5) rfl (by kernel_rfl) (by kernel_rfl) (by kernel_rfl) [] (by kernel_rfl) (fun _ _ _ h => h) rfl rfl (by decide) (fun _ h => h.upto ⟨rfl, rfl, rfl, rfl, rfl, rfl, rfl, rfl, rfl, rfl, rfl, rfl, rfl, rfl, trivial⟩) (qt_move rfl rfl) ?_
              refine dg_q (i := 6) rfl (by kernel_rfl) (by kernel_rfl) (by kernel_rfl) [] (by kernel_rfl) (fun _ _ _ h => h) rfl rfl (by decide) (fun _ h => h.upto ⟨rfl, rfl, rfl, rfl, rfl, rfl, rfl, rfl, rfl, rfl, rfl, rfl, rfl, rfl, trivial⟩) (qt_extract rfl rfl rfl) ?_
              refine dg_q (i := 7) rfl (by kernel_rfl) (by kernel_rfl) (by kernel_rfl) [] (by kernel_rfl) (fun _ _ _ h => h) rfl rfl (by decide) (fun _ h => h.upto ⟨rfl, rfl, rfl, rfl, rfl, rfl, rfl, rfl, rfl, rfl, rfl, rfl, rfl, rfl, trivial⟩) (qt_extract rfl rfl rfl) ?_
              refine dg_one (i := 9) rfl (by decide) (by kernel_rfl) rfl ?_
              refine op_storeAll' (k := 15) rfl rfl rfl rfl (rfl) (by rfl) tyz_impl_Region.szx rfl rfl rfl ?_
              refine at_rsE (by simp only [List.nil_append, List.cons_append, List.set_cons_zero, List.set_cons_succ, Value.cells, List.toList_toArray]; rfl) ?_
              refine dr_keep (fun _ h => h.upto ⟨rfl, rfl, rfl, rfl, rfl, rfl, rfl, rfl, rfl, rfl, rfl, rfl, rfl, rfl, trivial⟩) ?_
              refine dg_q (i := 10) rfl (by kernel_rfl) (by kernel_rfl) (by kernel_rfl) [] (by kernel_rfl) (fun _ _ _ h => h) rfl rfl (by decide) (fun _ h => h.upto ⟨rfl, rfl, rfl, rfl, rfl, rfl, rfl, rfl, rfl, rfl, rfl, rfl, rfl, rfl, trivial⟩) (qt_assign rfl rfl) ?_
              refine dg_done (by kernel_rfl) ?_
              refine norm_then ?_
              exact at_meetX hC_cut_31 ((((pg, plo, phi), (qg, qlo, qhi)), ((hA, hc), hlo, hhi), b12)) (trivial) ⟨rfl, rfl, rfl, rfl, rfl, rfl, rfl, rfl, trivial⟩ (fun _ h => h.picks [4, 5, 10, 11, 14, 16, 17, 15] (by decide))
          · refine op_alloc rfl tyz_impl_Region rfl (by decide) (fun b13 => ?_)
            refine at_rsE (by simp only [List.nil_append, List.cons_append, List.set_cons_zero, List.set_cons_succ, Value.cells, List.toList_toArray]; rfl) ?_
            refine dr_keep (fun _ h => h.upto ⟨rfl, rfl, rfl, rfl, rfl, rfl, rfl, rfl, rfl, rfl, rfl, rfl, rfl, rfl, trivial⟩) ?_
            refine dg_one (i := 1) rfl (by decide) (by kernel_rfl) rfl ?_
            refine op_call ok_laws_toRegion (X := Nat × Nat × Nat) (v := fun x => regV (some ⟨x.1, 0, none⟩) n n) (r := fun x => gegR n rs x.2.1 x.2.2 (some ⟨x.1, 0, none⟩)) (H := fun _ => True) rfl rfl rfl (by decide) (fun w1 hs => gegNew1 (toRegion_new A n c rs w1 (h.over hs.fin) ht)) ?_
            rintro ⟨pg, plo, phi⟩ -
            refine at_rsE (by simp only [List.nil_append, List.cons_append, List.set_cons_zero, List.set_cons_succ, Value.cells, List.toList_toArray]; rfl) ?_
            refine dr_keep (fun _ h => h.upto ⟨rfl, rfl, rfl, rfl, rfl, rfl, rfl, rfl, rfl, rfl, rfl, rfl, rfl, rfl, trivial⟩) ?_
            refine dg_one (i := 3) rfl (by decide) (by kernel_rfl) rfl ?_
            refine op_call ok_laws_toRegion (X := Nat × Nat × Nat) (v := fun x => regV (some ⟨x.1, 0, none⟩) n2 n2) (r := fun x => gegR n2 ss x.2.1 x.2.2 (some ⟨x.1, 0, none⟩)) (H := fun _ => True) rfl rfl rfl (by decide) (fun w1 hs => gegNew1 (toRegion_new A2 n2 c2_ ss w1 (h2.over hs.fin) ht2)) ?_
            rintro ⟨qg, qlo, qhi⟩ -
            refine at_rsE (by simp only [List.nil_append, List.cons_append, List.set_cons_zero, List.set_cons_succ, Value.cells, List.toList_toArray]; rfl) ?_
            refine dr_keep (fun _ h => h.upto ⟨rfl, rfl, rfl, rfl, rfl, rfl, rfl, rfl, rfl, rfl, rfl, rfl, rfl, rfl, trivial⟩) ?_
            refine dg_one (i := 4) rfl (by decide) (by kernel_rfl) rfl ?_
            refine op_call ok_impl_JoinRegions (X := (Option Addr × Nat) × Nat × Nat) (v := fun x => .tuple #[regV x.1.1 _ x.1.2, .int .i64 _]) (r := fun x => gegR _ _ x.2.1 x.2.2 x.1.1) (H := fun _ => True) rfl rfl rfl (by decide) (fun w1 hs => gegCode (JoinRegions_any _ _ n n n2 n2 rs ss w1 (gegRings (k := 15) rfl w1 hs) (gegRings (k := 16) rfl w1 hs) (Int.le_trans ht (by decide)) (Int.le_trans ht2 (by decide)))) ?_
            rintro ⟨⟨hA, hc⟩, hlo, hhi⟩ -
            refine at_rsE (by simp only [List.nil_append, List.cons_append, List.set_cons_zero, List.set_cons_succ, Value.cells, List.toList_toArray]; rfl) ?_
            refine dr_keep (fun _ h => h.upto ⟨rfl, rfl, rfl, rfl, rfl, rfl, rfl, rfl, rfl, rfl, rfl, rfl, rfl, rfl, trivial⟩) ?_
            refine dg_q (i := 5) rfl (by kernel_rfl) (by kernel_rfl) (by kernel_rfl) [] (by kernel_rfl) (fun _ _ _ h => h) rfl rfl (by decide) (fun _ h => h.upto ⟨rfl, rfl, rfl, rfl, rfl, rfl, rfl, rfl, rfl, rfl, rfl, rfl, rfl, rfl, trivial⟩) (qt_move rfl rfl) ?_
            refine dg_q (i := 6) rfl (by kernel_rfl) (by kernel_rfl) (by kernel_rfl) [] (by kernel_rfl) (fun _ _ _ h => h) rfl rfl (by decide) (fun _ h => h.upto ⟨rfl, rfl, rfl, rfl, rfl, rfl, rfl, rfl, rfl, rfl, rfl, rfl, rfl, rfl, trivial⟩) (qt_extract rfl rfl rfl) ?_
            refine dg_q (i := 7) rfl (by kernel_rfl) (by kernel_rfl) (by kernel_rfl) [] (by kernel_rfl) (fun _ _ _ h => h) rfl rfl (by decide) (fun _ h => h.upto ⟨rfl, rfl, rfl, rfl, rfl, rfl, rfl, rfl, rfl, rfl, rfl, rfl, rfl, rfl, trivial⟩) (qt_extract rfl rfl rfl) ?_
            refine dg_one (i := 9) rfl (by decide) (by kernel_rfl) rfl ?_
            refine op_storeAll' (k := 14) rfl rfl rfl rfl (rfl) (by rfl) tyz_impl_Region.szx rfl rfl rfl ?_
            refine at_rsE (by simp only [List.nil_append, List.cons_append, List.set_cons_zero, List.set_cons_succ, Value.cells, List.toList_toArray]; rfl) ?_
            refine dr_keep (fun _ h => h.upto ⟨rfl, rfl, rfl, rfl, rfl, rfl, rfl, rfl, rfl, rfl, rfl, rfl, rfl, rfl, trivial⟩) ?_
            refine dg_q (i := 10) rfl (by kernel_rfl) (by kernel_rfl) (by kernel_rfl) [] (by kernel_rfl) (fun _ _ _ h => h) rfl rfl (by decide) (fun _ h => h.upto ⟨rfl, rfl, rfl, rfl, rfl, rfl, rfl, rfl, rfl, rfl, rfl, rfl, rfl, rfl, trivial⟩) (qt_assign rfl rfl) ?_
            refine dg_done (by kernel_rfl) ?_
            refine norm_then ?_
            exact at_meetX hC_cut_31 ((((pg, plo, phi), (qg, qlo, qhi)), ((hA, hc), hlo, hhi), b13)) (trivial) ⟨rfl, rfl, rfl, rfl, rfl, rfl, rfl, rfl, trivial⟩ (fun _ h => h.picks [4, 5, 10, 11, 15, 16, 17, 14] (by decide))
        · rintro ⟨⟨⟨pg, plo, phi⟩, ⟨qg, qlo, qhi⟩⟩, ⟨⟨hA, hc⟩, hlo, hhi⟩, bh⟩ -
          refine at_envE (by simp only [List.nil_append, List.cons_append]; rfl) ?_
          refine at_rsE (by first | (dsimp only; done) | (dsimp only; rfl) | rfl) ?_
          refine at_seq ?_
          refine at_seq ?_
          refine at_region ?_
          refine at_q rfl rfl (by decide) (qt_loadS rfl rfl tys_impl_Region rfl (rdAll (k := 7) rfl)) ?_
          refine at_q rfl rfl (by decide) (qt_loadS rfl rfl tys_impl_Region rfl (rdAll (k := 1) rfl)) ?_
          refine at_q rfl rfl (by decide) (qt_call ok_laws_eqRegion rfl rfl (fun w1 hs => eqRegion_same _ _ _ _ _ (jnR rs ss) w1 (gegRings (k := 6) rfl w1 hs) (gegRings (k := 0) rfl w1 hs) hst)) ?_
          refine at_q rfl rfl (by decide) (qt_not rfl rfl) ?_
          refine at_q rfl rfl (by decide) (qt_move rfl rfl) ?_
          refine at_as 106 (.bool false) rfl (by rw [notTrue]) ?_
          refine at_on rfl rfl rfl rfl ?_
          refine op_q rfl (by decide) (qt_move rfl rfl) ?_
          refine at_on rfl rfl rfl rfl ?_
          refine op_q rfl (by decide) (qt_move rfl rfl) ?_
          refine at_on rfl rfl rfl rfl ?_
          refine op_q rfl (by decide) (qt_neq rfl rfl rfl) ?_
          refine at_q rfl rfl (by decide) (qt_pickF rfl rfl rfl) ?_
          refine at_end ?_
          refine at_no rfl (neSelf _) ?_
          refine at_skip ?_
          refine norm_then ?_
          refine at_seq ?_
          refine at_region ?_
          refine at_q rfl rfl (by decide) (qt_assign rfl rfl) ?_
          refine at_end ?_
          refine at_seq ?_
          refine at_region ?_
          refine at_q rfl rfl (by decide) (qt_loadS rfl rfl tys_impl_Region rfl (rdAll (k := 3) rfl)) ?_
          refine at_q rfl rfl (by decide) (qt_move rfl rfl) ?_
          refine at_q rfl rfl (by decide) (qt_call ok_laws_heldRegion rfl rfl (fun w1 hs => heldGeg (gegRings (k := 2) rfl w1 hs) hss)) ?_
          refine at_q rfl rfl (by decide) (qt_assign rfl rfl) ?_
          refine at_end ?_
          refine at_seq ?_
          refine at_seq ?_
          refine at_region ?_
          refine at_q rfl rfl (by decide) (qt_move rfl rfl) ?_
          refine at_q rfl rfl (by decide) (qt_lss rfl rfl rfl) ?_
          refine at_end ?_
          refine at_no rfl (posF _) ?_
          refine at_skip ?_
          refine norm_then ?_
          refine at_seq ?_
          refine at_seq ?_
          refine at_region ?_
          refine at_q rfl rfl (by decide) (qt_move rfl rfl) ?_
          refine at_q rfl rfl (by decide) (qt_move rfl rfl) ?_
          refine at_q rfl rfl (by decide) (qt_neq rfl rfl rfl) ?_
          refine at_end ?_
          refine at_no rfl (neSelf _) ?_
          refine at_skip ?_
          refine norm_then ?_
          refine at_seq ?_
          refine at_region ?_
          refine at_q rfl rfl (by decide) (qt_assign rfl rfl) ?_
          refine at_end ?_
          refine at_retc ?_
          refine at_ret1 rfl (.tmp rfl) ?_
          intro w' hs
          exact ⟨rfl, hs.fin⟩
end Go.Proofs.Ytnalgllmdpcjcaa
