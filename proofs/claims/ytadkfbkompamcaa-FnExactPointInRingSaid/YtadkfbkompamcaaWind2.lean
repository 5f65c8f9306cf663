/- How often edges go around a point: the reference's. -/
import Derived.Test.YtadkfbkompamcaaWind
namespace Go.Proofs.Ytadkfbkompamcaa
open Go Go.RowKit
set_option linter.unusedVariables false
set_option linter.unusedSimpArgs false
set_option maxRecDepth 100000
set_option maxHeartbeats 4000000

theorem l14Winding_any (A : Option Addr) (n c : Nat) (ls : List Leg) (x y : Int) (w : World) (h : Legs w A n ls) (hn : n ≤ 1048576) (hok : ∀ l ∈ ls, legOk l) (hx : bdM x) (hy : bdM y) :
    Calls Try.prog 84 #[.slice A n c, ptV x y] w fun e w' => e = .returned (.int .i64 (wind false ls x y)) ∧ Over w w' := by
  have hl := h.1
  refine walk_from (m := 70) (Try.func84) rfl rfl (Nat.le_of_ble_eq_true rfl) ?_
  refine at_seq ?_
  refine at_region ?_
  refine at_op rfl ?_
  refine op_box rfl rfl (rfl) rfl (by decide) (fun b1 => ?_)
  refine at_rsE (by simp only [List.nil_append, List.cons_append, List.set_cons_zero, List.set_cons_succ, Value.cells, List.toList_toArray]; rfl) ?_
  refine at_q rfl rfl (by decide) (qt_assign rfl rfl) ?_
  refine at_end ?_
  refine at_seq ?_
  refine at_region ?_
  refine at_q rfl rfl (by decide) (qt_assign rfl rfl) ?_
  refine at_end ?_
  refine at_seq ?_
  refine at_seq ?_
  refine at_region ?_
  refine at_q rfl rfl (by decide) (qt_assign rfl rfl) ?_
  refine at_end ?_
  refine at_block ?_
  refine at_loopk (X := Nat) (fun k => k ≤ n) (fun k => n - k) (fun k => [(5, .int .i64 (windTo false ls x y k)), (6, .int .i64 (k : Int))]) (C := [(0, _), (3, _), (4, _)]) ⟨rfl, rfl, rfl, trivial⟩ 0 (Nat.zero_le _) ⟨rfl, rfl, rfl, rfl, rfl, trivial⟩ ?_
  intro k hk L hL
  refine at_envE (by simp only [List.nil_append, List.cons_append]; rfl) ?_
  have hwb := windTo_bd false ls x y k
  refine at_seq ?_
  refine at_seq ?_
  refine at_region ?_
  refine at_q rfl rfl (by decide) (qt_move rfl rfl) ?_
  refine at_q rfl rfl (by decide) (qt_move rfl rfl) ?_
  refine at_q rfl rfl (by decide) (qt_len rfl rfl tyl_sl_spec_l13Edge) ?_
  refine at_q rfl rfl (by decide) (qt_lss rfl rfl rfl) ?_
  refine at_end ?_
  refine at_cond rfl (fun c1 => ?_) (fun c1 => ?_)
  · try simp only [decide_eq_true_eq, decide_eq_false_iff_not, beq_iff_eq, beq_eq_false_iff_ne, Bool.not_eq_true', Bool.not_eq_false', Bool.not_true, Bool.not_false, Int.not_lt, Int.not_le, ne_eq, Nat.not_lt, Nat.not_le] at c1
    have hlt : k < n := (by omega)
    obtain ⟨bb, oo, rfl⟩ := h.form (by omega)
    obtain ⟨d1, d2, d3, d4⟩ := leg_bd (lg_ok hok (show k < ls.length by omega))
    refine at_skip ?_
    refine norm_then ?_
    refine at_seq ?_
    refine at_block ?_
    refine at_seq ?_
    refine at_region ?_
    refine at_q rfl rfl (by decide) (qt_move rfl rfl) ?_
    refine at_q rfl rfl (by decide) (qt_move rfl rfl) ?_
    refine at_q rfl rfl (by decide) (qt_index rfl rfl rfl tyl_sl_spec_l13Edge (by omega)) ?_
    refine at_q rfl rfl (by decide) (qt_fieldAddr rfl rfl tyf_spec_l13Edge_0) ?_
    refine at_q rfl rfl (by decide) (qt_loadS rfl rfl tys_impl_Pt rfl (rdLegA (b := bb) (o := oo) (j := k) (fun w' hs => h.over hs.fin) hlt)) ?_
    refine at_op rfl ?_
    refine op_alloc rfl tyz_impl_Pt rfl (by decide) (fun b2 => ?_)
    refine at_rsE (by simp only [List.nil_append, List.cons_append, List.set_cons_zero, List.set_cons_succ, Value.cells, List.toList_toArray]; rfl) ?_
    refine at_op rfl ?_
    refine op_storeAll' (k := 1) rfl rfl rfl rfl (rfl) (by rfl) tyz_impl_Pt.szx rfl rfl rfl ?_
    refine at_rsE (by simp only [List.nil_append, List.cons_append, List.set_cons_zero, List.set_cons_succ, Value.cells, List.toList_toArray]; rfl) ?_
    refine at_end ?_
    refine at_seq ?_
    refine at_region ?_
    refine at_q rfl rfl (by decide) (qt_move rfl rfl) ?_
    refine at_q rfl rfl (by decide) (qt_move rfl rfl) ?_
    refine at_q rfl rfl (by decide) (qt_index rfl rfl rfl tyl_sl_spec_l13Edge (by omega)) ?_
    refine at_q rfl rfl (by decide) (qt_fieldAddr rfl rfl tyf_spec_l13Edge_1) ?_
    refine at_q rfl rfl (by decide) (qt_loadS rfl rfl tys_impl_Pt rfl (rdLegB (b := bb) (o := oo) (j := k) (fun w' hs => h.over hs.fin) hlt)) ?_
    refine at_op rfl ?_
    refine op_alloc rfl tyz_impl_Pt rfl (by decide) (fun b3 => ?_)
    refine at_rsE (by simp only [List.nil_append, List.cons_append, List.set_cons_zero, List.set_cons_succ, Value.cells, List.toList_toArray]; rfl) ?_
    refine at_op rfl ?_
    refine op_storeAll' (k := 2) rfl rfl rfl rfl (rfl) (by rfl) tyz_impl_Pt.szx rfl rfl rfl ?_
    refine at_rsE (by simp only [List.nil_append, List.cons_append, List.set_cons_zero, List.set_cons_succ, Value.cells, List.toList_toArray]; rfl) ?_
    refine at_end ?_
    refine at_block ?_
    refine at_cutE [(25, .bool (wUp (lg ls k) x y))] (C := [(0, _), (3, _), (4, _), (5, _), (6, _), (9, _), (10, _), (11, _), (12, _), (15, _), (16, _), (17, _), (18, _), (19, _), (7, _), (20, _), (21, _), (22, _), (23, _), (24, _), (8, _)])  ⟨rfl, rfl, rfl, rfl, rfl, rfl, rfl, rfl, rfl, rfl, rfl, rfl, rfl, rfl, rfl, rfl, rfl, rfl, rfl, rfl, rfl, trivial⟩ (fun L hL => ?_) ?_
    · refine at_region ?_
      refine at_q rfl rfl (by decide) (qt_fieldAddr rfl rfl tyf_impl_Pt_1) ?_
      refine at_q rfl rfl (by decide) (qt_load1 rfl rfl ty1_int64 (rd1 (k := 1) rfl rfl)) ?_
      refine at_q rfl rfl (by decide) (qt_fieldAddr rfl rfl tyf_impl_Pt_1) ?_
      refine at_q rfl rfl (by decide) (qt_load1 rfl rfl ty1_int64 (rd1 (k := 0) rfl rfl)) ?_
      refine at_q rfl rfl (by decide) (qt_leq rfl rfl rfl) ?_
      refine at_q rfl rfl (by decide) (qt_move rfl rfl) ?_
      refine at_bsplit 31 rfl (fun g1 => ?_) (fun g1 => ?_)
      · try simp only [decide_eq_true_eq, decide_eq_false_iff_not, beq_iff_eq, beq_eq_false_iff_ne, Bool.not_eq_true', Bool.not_eq_false', Bool.not_true, Bool.not_false, Int.not_lt, Int.not_le, ne_eq, Nat.not_lt, Nat.not_le] at g1
        refine at_on rfl rfl rfl rfl ?_
        refine op_q rfl (by decide) (qt_fieldAddr rfl rfl tyf_impl_Pt_1) ?_
        refine at_on rfl rfl rfl rfl ?_
        refine op_q rfl (by decide) (qt_load1 rfl rfl ty1_int64 (rd1 (k := 0) rfl rfl)) ?_
        refine at_on rfl rfl rfl rfl ?_
        refine op_q rfl (by decide) (qt_fieldAddr rfl rfl tyf_impl_Pt_1) ?_
        refine at_on rfl rfl rfl rfl ?_
        refine op_q rfl (by decide) (qt_load1 rfl rfl ty1_int64 (rd1 (k := 2) rfl rfl)) ?_
        refine at_on rfl rfl rfl rfl ?_
        refine op_q rfl (by decide) (qt_lss rfl rfl rfl) ?_
        refine at_q rfl rfl (by decide) (qt_pickT rfl rfl rfl) ?_
        refine at_q rfl rfl (by decide) (qt_move rfl rfl) ?_
        refine at_bsplit 38 rfl (fun g2 => ?_) (fun g2 => ?_)
        · try simp only [decide_eq_true_eq, decide_eq_false_iff_not, beq_iff_eq, beq_eq_false_iff_ne, Bool.not_eq_true', Bool.not_eq_false', Bool.not_true, Bool.not_false, Int.not_lt, Int.not_le, ne_eq, Nat.not_lt, Nat.not_le] at g2
          refine at_on rfl rfl rfl rfl ?_
          refine op_q rfl (by decide) (qt_loadS rfl rfl tys_impl_Pt rfl (rdAll (k := 1) rfl)) ?_
          refine at_on rfl rfl rfl rfl ?_
          refine op_q rfl (by decide) (qt_loadS rfl rfl tys_impl_Pt rfl (rdAll (k := 2) rfl)) ?_
          refine at_on rfl rfl rfl rfl ?_
          refine op_q rfl (by decide) (qt_loadS rfl rfl tys_impl_Pt rfl (rdAll (k := 0) rfl)) ?_
          refine at_on rfl rfl rfl rfl ?_
          refine op_q rfl (by decide) (qt_call ok_spec_l03Turn rfl rfl (fun w h => l03Turn_any _ _ _ _ _ _ w d1.1 d1.2 d2.1 d2.2 d3.1 d3.2 d4.1 d4.2 hx.1 hx.2 hy.1 hy.2)) ?_
          refine at_on rfl rfl rfl rfl ?_
          refine op_q rfl (by decide) (qt_gtr rfl rfl rfl) ?_
          refine at_q rfl rfl (by decide) (qt_pickT rfl rfl rfl) ?_
          refine at_q rfl rfl (by decide) (qt_assign rfl rfl) ?_
          refine at_end ?_
          exact at_meet hL ⟨vb (by simp [wUp, *]), rfl, rfl, rfl, rfl, rfl, rfl, rfl, rfl, rfl, rfl, rfl, rfl, rfl, rfl, rfl, rfl, rfl, rfl, rfl, rfl, rfl, trivial⟩ (fun _ h => h.upto ⟨rfl, rfl, rfl, trivial⟩)
        · try simp only [decide_eq_true_eq, decide_eq_false_iff_not, beq_iff_eq, beq_eq_false_iff_ne, Bool.not_eq_true', Bool.not_eq_false', Bool.not_true, Bool.not_false, Int.not_lt, Int.not_le, ne_eq, Nat.not_lt, Nat.not_le] at g2
          refine at_off rfl rfl rfl rfl (by decide) rfl (by decide) ?_
          refine at_off rfl rfl rfl rfl (by decide) rfl (by decide) ?_
          refine at_off rfl rfl rfl rfl (by decide) rfl (by decide) ?_
          refine at_off rfl rfl rfl rfl (by decide) rfl (by decide) ?_
          refine at_off rfl rfl rfl rfl (by decide) rfl (by decide) ?_
          refine at_q rfl rfl (by decide) (qt_pickF rfl rfl rfl) ?_
          refine at_q rfl rfl (by decide) (qt_assign rfl rfl) ?_
          refine at_end ?_
          exact at_meet hL ⟨vb (by symm; simp [wUp]; omega), rfl, rfl, rfl, rfl, rfl, rfl, rfl, rfl, rfl, rfl, rfl, rfl, rfl, rfl, rfl, rfl, rfl, rfl, rfl, rfl, rfl, trivial⟩ (fun _ h => h.upto ⟨rfl, rfl, rfl, trivial⟩)
      · try simp only [decide_eq_true_eq, decide_eq_false_iff_not, beq_iff_eq, beq_eq_false_iff_ne, Bool.not_eq_true', Bool.not_eq_false', Bool.not_true, Bool.not_false, Int.not_lt, Int.not_le, ne_eq, Nat.not_lt, Nat.not_le] at g1
        refine at_off rfl rfl rfl rfl (by decide) rfl (by decide) ?_
        refine at_off rfl rfl rfl rfl (by decide) rfl (by decide) ?_
        refine at_off rfl rfl rfl rfl (by decide) rfl (by decide) ?_
        refine at_off rfl rfl rfl rfl (by decide) rfl (by decide) ?_
        refine at_off rfl rfl rfl rfl (by decide) rfl (by decide) ?_
        refine at_q rfl rfl (by decide) (qt_pickF rfl rfl rfl) ?_
        refine at_q rfl rfl (by decide) (qt_move rfl rfl) ?_
        refine at_off rfl rfl rfl rfl (by decide) rfl (by decide) ?_
        refine at_off rfl rfl rfl rfl (by decide) rfl (by decide) ?_
        refine at_off rfl rfl rfl rfl (by decide) rfl (by decide) ?_
        refine at_off rfl rfl rfl rfl (by decide) rfl (by decide) ?_
        refine at_off rfl rfl rfl rfl (by decide) rfl (by decide) ?_
        refine at_q rfl rfl (by decide) (qt_pickF rfl rfl rfl) ?_
        refine at_q rfl rfl (by decide) (qt_assign rfl rfl) ?_
        refine at_end ?_
        exact at_meet hL ⟨vb (by symm; simp [wUp]; omega), rfl, rfl, rfl, rfl, rfl, rfl, rfl, rfl, rfl, rfl, rfl, rfl, rfl, rfl, rfl, rfl, rfl, rfl, rfl, rfl, rfl, trivial⟩ (fun _ h => h.upto ⟨rfl, rfl, rfl, trivial⟩)
    · refine at_envE (by simp only [List.nil_append, List.cons_append]; rfl) ?_
      refine at_cond rfl (fun c2 => ?_) (fun c2 => ?_)
      · try simp only [decide_eq_true_eq, decide_eq_false_iff_not, beq_iff_eq, beq_eq_false_iff_ne, Bool.not_eq_true', Bool.not_eq_false', Bool.not_true, Bool.not_false, Int.not_lt, Int.not_le, ne_eq, Nat.not_lt, Nat.not_le] at c2
        refine at_region ?_
        refine at_q rfl rfl (by decide) (qt_move rfl rfl) ?_
        refine at_q rfl rfl (by decide) (qt_add rfl rfl rfl (by omega) (by omega)) ?_
        refine at_q rfl rfl (by decide) (qt_assign rfl rfl) ?_
        refine at_nil ?_
        refine norm_block ?_
        refine norm_block ?_
        refine norm_then ?_
        refine at_region ?_
        refine at_q rfl rfl (by decide) (qt_move rfl rfl) ?_
        refine at_q rfl rfl (by decide) (qt_add rfl rfl rfl (by omega) (by omega)) ?_
        refine at_q rfl rfl (by decide) (qt_assign rfl rfl) ?_
        refine at_end ?_
        exact at_againk hL (k + 1) (by omega) (by omega) ⟨vi (windF_up c2), vi (by omega), rfl, rfl, rfl, trivial⟩ (fun _ h => h.upto ⟨rfl, trivial⟩)
      · try simp only [decide_eq_true_eq, decide_eq_false_iff_not, beq_iff_eq, beq_eq_false_iff_ne, Bool.not_eq_true', Bool.not_eq_false', Bool.not_true, Bool.not_false, Int.not_lt, Int.not_le, ne_eq, Nat.not_lt, Nat.not_le] at c2
        refine at_cutE [(47, .bool (wDown (lg ls k) x y))] (C := [(0, _), (3, _), (4, _), (5, _), (6, _), (9, _), (10, _), (11, _), (12, _), (15, _), (16, _), (17, _), (18, _), (19, _), (7, _), (20, _), (21, _), (22, _), (23, _), (24, _), (8, _), (25, _)])  ⟨rfl, rfl, rfl, rfl, rfl, rfl, rfl, rfl, rfl, rfl, rfl, rfl, rfl, rfl, rfl, rfl, rfl, rfl, rfl, rfl, rfl, rfl, trivial⟩ (fun L hL => ?_) ?_
        · refine at_region ?_
          refine at_q rfl rfl (by decide) (qt_fieldAddr rfl rfl tyf_impl_Pt_1) ?_
          refine at_q rfl rfl (by decide) (qt_load1 rfl rfl ty1_int64 (rd1 (k := 2) rfl rfl)) ?_
          refine at_q rfl rfl (by decide) (qt_fieldAddr rfl rfl tyf_impl_Pt_1) ?_
          refine at_q rfl rfl (by decide) (qt_load1 rfl rfl ty1_int64 (rd1 (k := 0) rfl rfl)) ?_
          refine at_q rfl rfl (by decide) (qt_leq rfl rfl rfl) ?_
          refine at_q rfl rfl (by decide) (qt_move rfl rfl) ?_
          refine at_bsplit 53 rfl (fun g3 => ?_) (fun g3 => ?_)
          · try simp only [decide_eq_true_eq, decide_eq_false_iff_not, beq_iff_eq, beq_eq_false_iff_ne, Bool.not_eq_true', Bool.not_eq_false', Bool.not_true, Bool.not_false, Int.not_lt, Int.not_le, ne_eq, Nat.not_lt, Nat.not_le] at g3
            refine at_on rfl rfl rfl rfl ?_
            refine op_q rfl (by decide) (qt_fieldAddr rfl rfl tyf_impl_Pt_1) ?_
            refine at_on rfl rfl rfl rfl ?_
            refine op_q rfl (by decide) (qt_load1 rfl rfl ty1_int64 (rd1 (k := 0) rfl rfl)) ?_
            refine at_on rfl rfl rfl rfl ?_
            refine op_q rfl (by decide) (qt_fieldAddr rfl rfl tyf_impl_Pt_1) ?_
            refine at_on rfl rfl rfl rfl ?_
            refine op_q rfl (by decide) (qt_load1 rfl rfl ty1_int64 (rd1 (k := 1) rfl rfl)) ?_
            refine at_on rfl rfl rfl rfl ?_
            refine op_q rfl (by decide) (qt_lss rfl rfl rfl) ?_
            refine at_q rfl rfl (by decide) (qt_pickT rfl rfl rfl) ?_
            refine at_q rfl rfl (by decide) (qt_move rfl rfl) ?_
            refine at_bsplit 60 rfl (fun g4 => ?_) (fun g4 => ?_)
            · try simp only [decide_eq_true_eq, decide_eq_false_iff_not, beq_iff_eq, beq_eq_false_iff_ne, Bool.not_eq_true', Bool.not_eq_false', Bool.not_true, Bool.not_false, Int.not_lt, Int.not_le, ne_eq, Nat.not_lt, Nat.not_le] at g4
              refine at_on rfl rfl rfl rfl ?_
              refine op_q rfl (by decide) (qt_loadS rfl rfl tys_impl_Pt rfl (rdAll (k := 1) rfl)) ?_
              refine at_on rfl rfl rfl rfl ?_
              refine op_q rfl (by decide) (qt_loadS rfl rfl tys_impl_Pt rfl (rdAll (k := 2) rfl)) ?_
              refine at_on rfl rfl rfl rfl ?_
              refine op_q rfl (by decide) (qt_loadS rfl rfl tys_impl_Pt rfl (rdAll (k := 0) rfl)) ?_
              refine at_on rfl rfl rfl rfl ?_
              refine op_q rfl (by decide) (qt_call ok_spec_l03Turn rfl rfl (fun w h => l03Turn_any _ _ _ _ _ _ w d1.1 d1.2 d2.1 d2.2 d3.1 d3.2 d4.1 d4.2 hx.1 hx.2 hy.1 hy.2)) ?_
              refine at_on rfl rfl rfl rfl ?_
              refine op_q rfl (by decide) (qt_lss rfl rfl rfl) ?_
              refine at_q rfl rfl (by decide) (qt_pickT rfl rfl rfl) ?_
              refine at_q rfl rfl (by decide) (qt_assign rfl rfl) ?_
              refine at_end ?_
              exact at_meet hL ⟨vb (by simp [wDown, *]), rfl, rfl, rfl, rfl, rfl, rfl, rfl, rfl, rfl, rfl, rfl, rfl, rfl, rfl, rfl, rfl, rfl, rfl, rfl, rfl, rfl, rfl, trivial⟩ (fun _ h => h.upto ⟨rfl, rfl, rfl, trivial⟩)
            · try simp only [decide_eq_true_eq, decide_eq_false_iff_not, beq_iff_eq, beq_eq_false_iff_ne, Bool.not_eq_true', Bool.not_eq_false', Bool.not_true, Bool.not_false, Int.not_lt, Int.not_le, ne_eq, Nat.not_lt, Nat.not_le] at g4
              refine at_off rfl rfl rfl rfl (by decide) rfl (by decide) ?_
              refine at_off rfl rfl rfl rfl (by decide) rfl (by decide) ?_
              refine at_off rfl rfl rfl rfl (by decide) rfl (by decide) ?_
              refine at_off rfl rfl rfl rfl (by decide) rfl (by decide) ?_
              refine at_off rfl rfl rfl rfl (by decide) rfl (by decide) ?_
              refine at_q rfl rfl (by decide) (qt_pickF rfl rfl rfl) ?_
              refine at_q rfl rfl (by decide) (qt_assign rfl rfl) ?_
              refine at_end ?_
              exact at_meet hL ⟨vb (by symm; simp [wDown]; omega), rfl, rfl, rfl, rfl, rfl, rfl, rfl, rfl, rfl, rfl, rfl, rfl, rfl, rfl, rfl, rfl, rfl, rfl, rfl, rfl, rfl, rfl, trivial⟩ (fun _ h => h.upto ⟨rfl, rfl, rfl, trivial⟩)
          · try simp only [decide_eq_true_eq, decide_eq_false_iff_not, beq_iff_eq, beq_eq_false_iff_ne, Bool.not_eq_true', Bool.not_eq_false', Bool.not_true, Bool.not_false, Int.not_lt, Int.not_le, ne_eq, Nat.not_lt, Nat.not_le] at g3
            refine at_off rfl rfl rfl rfl (by decide) rfl (by decide) ?_
            refine at_off rfl rfl rfl rfl (by decide) rfl (by decide) ?_
            refine at_off rfl rfl rfl rfl (by decide) rfl (by decide) ?_
            refine at_off rfl rfl rfl rfl (by decide) rfl (by decide) ?_
            refine at_off rfl rfl rfl rfl (by decide) rfl (by decide) ?_
            refine at_q rfl rfl (by decide) (qt_pickF rfl rfl rfl) ?_
            refine at_q rfl rfl (by decide) (qt_move rfl rfl) ?_
            refine at_off rfl rfl rfl rfl (by decide) rfl (by decide) ?_
            refine at_off rfl rfl rfl rfl (by decide) rfl (by decide) ?_
            refine at_off rfl rfl rfl rfl (by decide) rfl (by decide) ?_
            refine at_off rfl rfl rfl rfl (by decide) rfl (by decide) ?_
            refine at_off rfl rfl rfl rfl (by decide) rfl (by decide) ?_
            refine at_q rfl rfl (by decide) (qt_pickF rfl rfl rfl) ?_
            refine at_q rfl rfl (by decide) (qt_assign rfl rfl) ?_
            refine at_end ?_
            exact at_meet hL ⟨vb (by symm; simp [wDown]; omega), rfl, rfl, rfl, rfl, rfl, rfl, rfl, rfl, rfl, rfl, rfl, rfl, rfl, rfl, rfl, rfl, rfl, rfl, rfl, rfl, rfl, rfl, trivial⟩ (fun _ h => h.upto ⟨rfl, rfl, rfl, trivial⟩)
        · refine at_envE (by simp only [List.nil_append, List.cons_append]; rfl) ?_
          refine at_cond rfl (fun c3 => ?_) (fun c3 => ?_)
          · try simp only [decide_eq_true_eq, decide_eq_false_iff_not, beq_iff_eq, beq_eq_false_iff_ne, Bool.not_eq_true', Bool.not_eq_false', Bool.not_true, Bool.not_false, Int.not_lt, Int.not_le, ne_eq, Nat.not_lt, Nat.not_le] at c3
            refine at_region ?_
            refine at_q rfl rfl (by decide) (qt_move rfl rfl) ?_
            refine at_q rfl rfl (by decide) (qt_sub rfl rfl rfl (by omega) (by omega)) ?_
            refine at_q rfl rfl (by decide) (qt_assign rfl rfl) ?_
            refine at_nil ?_
            refine norm_block ?_
            refine norm_block ?_
            refine norm_then ?_
            refine at_region ?_
            refine at_q rfl rfl (by decide) (qt_move rfl rfl) ?_
            refine at_q rfl rfl (by decide) (qt_add rfl rfl rfl (by omega) (by omega)) ?_
            refine at_q rfl rfl (by decide) (qt_assign rfl rfl) ?_
            refine at_end ?_
            exact at_againk hL (k + 1) (by omega) (by omega) ⟨vi (windF_down c2 c3), vi (by omega), rfl, rfl, rfl, trivial⟩ (fun _ h => h.upto ⟨rfl, trivial⟩)
          · try simp only [decide_eq_true_eq, decide_eq_false_iff_not, beq_iff_eq, beq_eq_false_iff_ne, Bool.not_eq_true', Bool.not_eq_false', Bool.not_true, Bool.not_false, Int.not_lt, Int.not_le, ne_eq, Nat.not_lt, Nat.not_le] at c3
            refine at_skip ?_
            refine norm_block ?_
            refine norm_block ?_
            refine norm_then ?_
            refine at_region ?_
            refine at_q rfl rfl (by decide) (qt_move rfl rfl) ?_
            refine at_q rfl rfl (by decide) (qt_add rfl rfl rfl (by omega) (by omega)) ?_
            refine at_q rfl rfl (by decide) (qt_assign rfl rfl) ?_
            refine at_end ?_
            exact at_againk hL (k + 1) (by omega) (by omega) ⟨vi (windF_stay c2 c3), vi (by omega), rfl, rfl, rfl, trivial⟩ (fun _ h => h.upto ⟨rfl, trivial⟩)
  · try simp only [decide_eq_true_eq, decide_eq_false_iff_not, beq_iff_eq, beq_eq_false_iff_ne, Bool.not_eq_true', Bool.not_eq_false', Bool.not_true, Bool.not_false, Int.not_lt, Int.not_le, ne_eq, Nat.not_lt, Nat.not_le] at c1
    refine at_exit ?_
    refine pass_then (fun h => by cases h) ?_
    refine pass_then (fun h => by cases h) ?_
    refine pass_hit ?_
    refine norm_then ?_
    refine at_seq ?_
    refine at_region ?_
    refine at_q rfl rfl (by decide) (qt_move rfl rfl) ?_
    refine at_q rfl rfl (by decide) (qt_assign rfl rfl) ?_
    refine at_end ?_
    refine at_retc ?_
    refine at_ret1 rfl (.tmp rfl) ?_
    intro w' hs
    exact ⟨retI (by rw [wind, hl, show k = n by omega]), hs.fin⟩

end Go.Proofs.Ytadkfbkompamcaa
