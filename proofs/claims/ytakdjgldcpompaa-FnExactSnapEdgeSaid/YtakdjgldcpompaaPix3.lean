/- The part of a segment in a pixel: the program's walk. -/
import Derived.Test.YtakdjgldcpompaaPix
import Derived.Test.YtakdjgldcpompaaDat
import Derived.Test.YtakdjgldcpompaaCorner
namespace Go.Proofs.Ytakdjgldcpompaa
open Go Go.RowKit
set_option linter.unusedVariables false
set_option linter.unusedSimpArgs false
set_option maxRecDepth 100000
set_option maxHeartbeats 4000000

abbrev bdV (n d : Int) (c : Bool) : Value := .agg #[.int .i64 n, .int .i64 d, .bool c]
def bd1 (n d : Int) : Prop := (-2097152 ≤ n ∧ n ≤ 2097152) ∧ -2097152 ≤ d ∧ d ≤ 2097152

theorem compareBound_any (n d n' d' : Int) (c c' : Bool) (w : World) (h : bd1 n d) (h' : bd1 n' d') :
    Calls Try.prog 58 #[bdV n d c, bdV n' d' c'] w fun e w' => e = .returned (.int .i64 (sgn (n * d' - n' * d))) ∧ Over w w' := by
  obtain ⟨⟨a1, a2⟩, a3, a4⟩ := h
  obtain ⟨⟨b1, b2⟩, b3, b4⟩ := h'
  obtain ⟨m1, m1'⟩ := mul_bd a1 a2 b3 b4
  obtain ⟨m2, m2'⟩ := mul_bd b1 b2 a3 a4
  refine walk_from (m := 17) (Try.func58) rfl rfl (Nat.le_of_ble_eq_true rfl) ?_
  refine at_seq ?_
  refine at_region ?_
  refine at_op rfl ?_
  refine op_box rfl rfl (rfl) rfl (by decide) (fun b1 => ?_)
  refine at_rsE (by simp only [List.nil_append, List.cons_append, List.set_cons_zero, List.set_cons_succ, Value.cells, List.toList_toArray]; rfl) ?_
  refine at_op rfl ?_
  refine op_box rfl rfl (rfl) rfl (by decide) (fun b2 => ?_)
  refine at_rsE (by simp only [List.nil_append, List.cons_append, List.set_cons_zero, List.set_cons_succ, Value.cells, List.toList_toArray]; rfl) ?_
  refine at_q rfl rfl (by decide) (qt_assign rfl rfl) ?_
  refine at_end ?_
  refine at_seq ?_
  refine at_region ?_
  refine at_q rfl rfl (by decide) (qt_fieldAddr rfl rfl tyf_impl_bound_0) ?_
  refine at_q rfl rfl (by decide) (qt_load1 rfl rfl ty1_int64 (rd1 (k := 0) rfl rfl)) ?_
  refine at_q rfl rfl (by decide) (qt_fieldAddr rfl rfl tyf_impl_bound_1) ?_
  refine at_q rfl rfl (by decide) (qt_load1 rfl rfl ty1_int64 (rd1 (k := 1) rfl rfl)) ?_
  refine at_q rfl rfl (by decide) (qt_mul rfl rfl rfl (by omega) (by omega)) ?_
  refine at_q rfl rfl (by decide) (qt_fieldAddr rfl rfl tyf_impl_bound_0) ?_
  refine at_q rfl rfl (by decide) (qt_load1 rfl rfl ty1_int64 (rd1 (k := 1) rfl rfl)) ?_
  refine at_q rfl rfl (by decide) (qt_fieldAddr rfl rfl tyf_impl_bound_1) ?_
  refine at_q rfl rfl (by decide) (qt_load1 rfl rfl ty1_int64 (rd1 (k := 0) rfl rfl)) ?_
  refine at_q rfl rfl (by decide) (qt_mul rfl rfl rfl (by omega) (by omega)) ?_
  refine at_q rfl rfl (by decide) (qt_sub rfl rfl rfl (by omega) (by omega)) ?_
  refine at_q rfl rfl (by decide) (qt_call ok_impl_sign64 rfl rfl (fun w h => (sign64_any _ w).mono fun e w' ⟨he, hw⟩ => ⟨he, hw ▸ Over.refl _⟩)) ?_
  refine at_q rfl rfl (by decide) (qt_assign rfl rfl) ?_
  refine at_end ?_
  refine at_retc ?_
  refine at_ret1 rfl (.tmp rfl) ?_
  intro w' hs
  exact ⟨rfl, hs.fin⟩
def spCs (s : Sp) : List Value := [.int .i64 s.ln, .int .i64 s.ld, .bool s.lc, .int .i64 s.hn, .int .i64 s.hd, .bool s.hc]
structure bdP (s : Sp) : Prop where
  low : bd1 s.ln s.ld
  high : bd1 s.hn s.hd
theorem pixX_bd (f d lo : Int) (f1 : -524288 ≤ f) (f2 : f ≤ 524288) (d1 : -1048576 ≤ d) (d2 : d ≤ 1048576) (l1 : -524289 ≤ lo) (l2 : lo ≤ 524289) : bdP (pixX f d lo) := by
  unfold pixX
  split
  · exact ⟨⟨⟨by simp; omega, by simp; omega⟩, by simp; omega, by simp; omega⟩, ⟨by simp; omega, by simp; omega⟩, by simp; omega, by simp; omega⟩
  · split
    · exact ⟨⟨⟨by simp; omega, by simp; omega⟩, by simp; omega, by simp; omega⟩, ⟨by simp; omega, by simp; omega⟩, by simp; omega, by simp; omega⟩
    · exact ⟨⟨⟨by decide, by decide⟩, by decide, by decide⟩, ⟨by decide, by decide⟩, by decide, by decide⟩
theorem meetLow_bd {s x : Sp} (hs : bdP s) (hx : bdP x) : bdP (meetLow s x) := by
  unfold meetLow; split
  · exact ⟨hx.low, hs.high⟩
  · exact hs
theorem meetHigh_bd {s x : Sp} (hs : bdP s) (hx : bdP x) : bdP (meetHigh s x) := by
  unfold meetHigh; split
  · exact ⟨hs.low, hx.high⟩
  · exact hs
theorem sgn_pos {n : Int} : (0 < sgn n) ↔ 0 < n := by unfold sgn; split <;> (try split) <;> omega
theorem sgn_neg {n : Int} : (sgn n < 0) ↔ n < 0 := by unfold sgn; split <;> (try split) <;> omega
theorem sgn_zero {n : Int} : (sgn n = 0) ↔ n = 0 := by unfold sgn; split <;> (try split) <;> omega

theorem sgn_cases (n : Int) : (n < 0 ∧ sgn n = -1) ∨ (n = 0 ∧ sgn n = 0) ∨ (0 < n ∧ sgn n = 1) := by unfold sgn; split <;> (try split) <;> omega

theorem clip_any (b : Nat) (s : Sp) (f d lo : Int) (w : World) (hs : bdP s) (f1 : -524288 ≤ f) (f2 : f ≤ 524288) (d1 : -1048576 ≤ d) (d2 : d ≤ 1048576) (l1 : -524289 ≤ lo) (l2 : lo ≤ 524289)
    (hh : w.heap[b]? = some (.cells (spCs s).toArray 103 (0, 0))) :
    Calls Try.prog 78 #[.pointer (some ⟨b, 0, none⟩), .int .i64 f, .int .i64 d, .int .i64 lo] w fun e w' => e = .returned (.bool (clipB s f d lo)) ∧ Wr b w w' ∧ w'.heap[b]? = some (.cells (spCs (clipS s f d lo)).toArray 103 (0, 0)) := by
  have hx := pixX_bd f d lo f1 f2 d1 d2 l1 l2
  obtain ⟨x, ex⟩ : ∃ x, pixX f d lo = x := ⟨_, rfl⟩
  rw [ex] at hx
  have hs1 := meetLow_bd hs hx
  have hs2 := meetHigh_bd hs1 hx
  obtain ⟨x1, x2⟩ := hx
  obtain ⟨y1, y2⟩ := hs
  obtain ⟨z1, z2⟩ := hs1
  obtain ⟨u1, u2⟩ := hs2
  refine walk_from1 (m := 122) (Try.func78) rfl rfl (Nat.le_of_ble_eq_true rfl) (hh) ?_
  refine at_seq ?_
  refine at_region ?_
  refine at_q rfl rfl (by decide) (qt_assign rfl rfl) ?_
  refine at_end ?_
  refine at_seq ?_
  refine at_seq ?_
  refine at_region ?_
  refine at_q rfl rfl (by decide) (qt_move rfl rfl) ?_
  refine at_q rfl rfl (by decide) (qt_eql rfl rfl rfl) ?_
  refine at_end ?_
  refine at_cond rfl (fun c1 => ?_) (fun c1 => ?_)
  · try simp only [decide_eq_true_eq, decide_eq_false_iff_not, beq_iff_eq, beq_eq_false_iff_ne, Bool.not_eq_true', Bool.not_eq_false', Bool.not_true, Bool.not_false, Int.not_lt, Int.not_le, ne_eq, Nat.not_lt, Nat.not_le] at c1
    refine at_seq ?_
    refine at_region ?_
    refine at_q rfl rfl (by decide) (qt_move rfl rfl) ?_
    refine at_q rfl rfl (by decide) (qt_move rfl rfl) ?_
    refine at_q rfl rfl (by decide) (qt_geq rfl rfl rfl) ?_
    refine at_q rfl rfl (by decide) (qt_move rfl rfl) ?_
    refine at_bsplit 19 rfl (fun g1 => ?_) (fun g1 => ?_)
    · try simp only [decide_eq_true_eq, decide_eq_false_iff_not, beq_iff_eq, beq_eq_false_iff_ne, Bool.not_eq_true', Bool.not_eq_false', Bool.not_true, Bool.not_false, Int.not_lt, Int.not_le, ne_eq, Nat.not_lt, Nat.not_le] at g1
      refine at_on rfl rfl rfl rfl ?_
      refine op_q rfl (by decide) (qt_move rfl rfl) ?_
      refine at_on rfl rfl rfl rfl ?_
      refine op_q rfl (by decide) (qt_move rfl rfl) ?_
      refine at_on rfl rfl rfl rfl ?_
      refine op_q rfl (by decide) (qt_add rfl rfl rfl (by omega) (by omega)) ?_
      refine at_on rfl rfl rfl rfl ?_
      refine op_q rfl (by decide) (qt_lss rfl rfl rfl) ?_
      refine at_q rfl rfl (by decide) (qt_pickT rfl rfl rfl) ?_
      refine at_q rfl rfl (by decide) (qt_assign rfl rfl) ?_
      refine at_end ?_
      refine at_retc ?_
      refine then_ret ?_
      refine at_ret1 rfl (.tmp rfl) ?_
      intro w' hs
      exact ⟨by subst c1; simp [clipB, g1], hs.over.wr, by subst c1; simpa [clipS] using hs.cel (k := 0) rfl⟩
    · try simp only [decide_eq_true_eq, decide_eq_false_iff_not, beq_iff_eq, beq_eq_false_iff_ne, Bool.not_eq_true', Bool.not_eq_false', Bool.not_true, Bool.not_false, Int.not_lt, Int.not_le, ne_eq, Nat.not_lt, Nat.not_le] at g1
      refine at_off rfl rfl rfl rfl (by decide) rfl (by decide) ?_
      refine at_off rfl rfl rfl rfl (by decide) rfl (by decide) ?_
      refine at_off rfl rfl rfl rfl (by decide) rfl (by decide) ?_
      refine at_off rfl rfl rfl rfl (by decide) rfl (by decide) ?_
      refine at_q rfl rfl (by decide) (qt_pickF rfl rfl rfl) ?_
      refine at_q rfl rfl (by decide) (qt_assign rfl rfl) ?_
      refine at_end ?_
      refine at_retc ?_
      refine then_ret ?_
      refine at_ret1 rfl (.tmp rfl) ?_
      intro w' hs
      exact ⟨by subst c1; simp [clipB]; omega, hs.over.wr, by subst c1; simpa [clipS] using hs.cel (k := 0) rfl⟩
  · try simp only [decide_eq_true_eq, decide_eq_false_iff_not, beq_iff_eq, beq_eq_false_iff_ne, Bool.not_eq_true', Bool.not_eq_false', Bool.not_true, Bool.not_false, Int.not_lt, Int.not_le, ne_eq, Nat.not_lt, Nat.not_le] at c1
    refine at_skip ?_
    refine norm_then ?_
    refine at_seq ?_
    refine at_region ?_
    refine at_q rfl rfl (by decide) (qt_move rfl rfl) ?_
    refine at_q rfl rfl (by decide) (qt_move rfl rfl) ?_
    refine at_q rfl rfl (by decide) (qt_sub rfl rfl rfl (by omega) (by omega)) ?_
    refine at_q rfl rfl (by decide) (qt_move rfl rfl) ?_
    refine at_q rfl rfl (by decide) (qt_build rfl rfl (bld_impl_bound_0_1_2 rfl rfl rfl)) ?_
    refine at_q rfl rfl (by decide) (qt_move rfl rfl) ?_
    refine at_q rfl rfl (by decide) (qt_add rfl rfl rfl (by omega) (by omega)) ?_
    refine at_q rfl rfl (by decide) (qt_move rfl rfl) ?_
    refine at_q rfl rfl (by decide) (qt_sub rfl rfl rfl (by omega) (by omega)) ?_
    refine at_q rfl rfl (by decide) (qt_move rfl rfl) ?_
    refine at_q rfl rfl (by decide) (qt_build rfl rfl (bld_impl_bound_0_1_2 rfl rfl rfl)) ?_
    refine at_op rfl ?_
    refine op_alloc rfl tyz_impl_bound rfl (by decide) (fun b1 => ?_)
    refine at_rsE (by simp only [List.nil_append, List.cons_append, List.set_cons_zero, List.set_cons_succ, Value.cells, List.toList_toArray]; rfl) ?_
    refine at_op rfl ?_
    refine op_alloc rfl tyz_impl_bound rfl (by decide) (fun b2 => ?_)
    refine at_rsE (by simp only [List.nil_append, List.cons_append, List.set_cons_zero, List.set_cons_succ, Value.cells, List.toList_toArray]; rfl) ?_
    refine at_op rfl ?_
    refine op_storeAll' (k := 1) rfl rfl rfl rfl (rfl) (by rfl) tyz_impl_bound.szx rfl rfl rfl ?_
    refine at_rsE (by simp only [List.nil_append, List.cons_append, List.set_cons_zero, List.set_cons_succ, Value.cells, List.toList_toArray]; rfl) ?_
    refine at_op rfl ?_
    refine op_storeAll' (k := 2) rfl rfl rfl rfl (rfl) (by rfl) tyz_impl_bound.szx rfl rfl rfl ?_
    refine at_rsE (by simp only [List.nil_append, List.cons_append, List.set_cons_zero, List.set_cons_succ, Value.cells, List.toList_toArray]; rfl) ?_
    refine at_end ?_
    refine at_cut [] (C := [(0, _), (8, _), (9, _), (10, _)]) ([.cel b 103 (spCs s), .cel b1 101 [.int .i64 x.ln, .int .i64 x.ld, .bool x.lc], .cel b2 101 [.int .i64 x.hn, .int .i64 x.hd, .bool x.hc]]) ⟨rfl, rfl, rfl, rfl, trivial⟩ (fun L hC_cutif_t37 => ?_) ?_
    · refine at_seq ?_
      refine at_region ?_
      refine at_q rfl rfl (by decide) (qt_move rfl rfl) ?_
      refine at_q rfl rfl (by decide) (qt_lss rfl rfl rfl) ?_
      refine at_end ?_
      refine at_cond rfl (fun c2 => ?_) (fun c2 => ?_)
      · try simp only [decide_eq_true_eq, decide_eq_false_iff_not, beq_iff_eq, beq_eq_false_iff_ne, Bool.not_eq_true', Bool.not_eq_false', Bool.not_true, Bool.not_false, Int.not_lt, Int.not_le, ne_eq, Nat.not_lt, Nat.not_le] at c2
        refine at_region ?_
        refine at_q rfl rfl (by decide) (qt_move rfl rfl) ?_
        refine at_q rfl rfl (by decide) (qt_move rfl rfl) ?_
        refine at_q rfl rfl (by decide) (qt_sub rfl rfl rfl (by omega) (by omega)) ?_
        refine at_q rfl rfl (by decide) (qt_sub rfl rfl rfl (by omega) (by omega)) ?_
        refine at_q rfl rfl (by decide) (qt_move rfl rfl) ?_
        refine at_q rfl rfl (by decide) (qt_neg rfl rfl (by omega) (by omega)) ?_
        refine at_q rfl rfl (by decide) (qt_build rfl rfl (bld_impl_bound_0_1_2 rfl rfl rfl)) ?_
        refine at_q rfl rfl (by decide) (qt_move rfl rfl) ?_
        refine at_q rfl rfl (by decide) (qt_move rfl rfl) ?_
        refine at_q rfl rfl (by decide) (qt_sub rfl rfl rfl (by omega) (by omega)) ?_
        refine at_q rfl rfl (by decide) (qt_move rfl rfl) ?_
        refine at_q rfl rfl (by decide) (qt_neg rfl rfl (by omega) (by omega)) ?_
        refine at_q rfl rfl (by decide) (qt_build rfl rfl (bld_impl_bound_0_1_2 rfl rfl rfl)) ?_
        refine at_op rfl ?_
        refine op_storeAll' (k := 1) rfl rfl rfl rfl (rfl) (by rfl) tyz_impl_bound.szx rfl rfl rfl ?_
        refine at_rsE (by simp only [List.nil_append, List.cons_append, List.set_cons_zero, List.set_cons_succ, Value.cells, List.toList_toArray]; rfl) ?_
        refine at_op rfl ?_
        refine op_storeAll' (k := 2) rfl rfl rfl rfl (rfl) (by rfl) tyz_impl_bound.szx rfl rfl rfl ?_
        refine at_rsE (by simp only [List.nil_append, List.cons_append, List.set_cons_zero, List.set_cons_succ, Value.cells, List.toList_toArray]; rfl) ?_
        refine at_end ?_
        exact at_meet hC_cutif_t37 ⟨rfl, rfl, rfl, rfl, trivial⟩ (fun _ h => h.upto ⟨rfl, by rw [← ex, pixX, if_neg (by omega), if_pos c2] <;> rfl, by rw [← ex, pixX, if_neg (by omega), if_pos c2] <;> rfl, trivial⟩)
      · try simp only [decide_eq_true_eq, decide_eq_false_iff_not, beq_iff_eq, beq_eq_false_iff_ne, Bool.not_eq_true', Bool.not_eq_false', Bool.not_true, Bool.not_false, Int.not_lt, Int.not_le, ne_eq, Nat.not_lt, Nat.not_le] at c2
        refine at_skip ?_
        refine norm_then ?_
        exact at_meet hC_cutif_t37 ⟨rfl, rfl, rfl, rfl, trivial⟩ (fun _ h => h.upto ⟨rfl, by rw [← ex, pixX, if_pos (by omega)] <;> rfl, by rw [← ex, pixX, if_pos (by omega)] <;> rfl, trivial⟩)
    · refine at_envE (by simp only [List.nil_append, List.cons_append]; rfl) ?_
      refine at_cut [] (C := [(0, _), (8, _), (10, _)]) ([.cel b 103 (spCs (meetLow s x)), .cel b1 101 [.int .i64 x.ln, .int .i64 x.ld, .bool x.lc], .cel b2 101 [.int .i64 x.hn, .int .i64 x.hd, .bool x.hc]]) ⟨rfl, rfl, rfl, trivial⟩ (fun L hC_cutif_t67 => ?_) ?_
      · refine at_seq ?_
        refine dg_start mixed rfl ?_
        refine dg_phase 7 ?_
        refine dg_q (i := 0) rfl (by kernel_rfl) (by kernel_rfl) (by kernel_rfl) [] (by kernel_rfl) (fun _ _ _ h => h) rfl rfl (by decide) (fun _ h => h.upto ⟨rfl, rfl, rfl, trivial⟩) (qt_loadS rfl rfl tys_impl_bound rfl (rdAll (k := 1) rfl)) ?_
        refine dg_q (i := 1) rfl (by kernel_rfl) (by kernel_rfl) (by kernel_rfl) [] (by kernel_rfl) (fun _ _ _ h => h) rfl rfl (by decide) (fun _ h => h.upto ⟨rfl, rfl, rfl, trivial⟩) (qt_move rfl rfl) ?_
        refine dg_q (i := 2) rfl (by kernel_rfl) (by kernel_rfl) (by kernel_rfl) [] (by kernel_rfl) (fun _ _ _ h => h) rfl rfl (by decide) (fun _ h => h.upto ⟨rfl, rfl, rfl, trivial⟩) (qt_nilCheck rfl rfl) ?_
        refine dg_q (i := 3) rfl (by kernel_rfl) (by kernel_rfl) (by kernel_rfl) [] (by kernel_rfl) (fun _ _ _ h => h) rfl rfl (by decide) (fun _ h => h.upto ⟨rfl, rfl, rfl, trivial⟩) (qt_fieldAddr rfl rfl tyf_impl_pixelWalk_0) ?_
        refine dg_q (i := 4) rfl (by kernel_rfl) (by kernel_rfl) (by kernel_rfl) [] (by kernel_rfl) (fun _ _ _ h => h) rfl rfl (by decide) (fun _ h => h.upto ⟨rfl, rfl, rfl, trivial⟩) (qt_loadS rfl rfl tys_impl_bound rfl (rd3 (k := 0) rfl rfl rfl rfl)) ?_
        refine dg_q (i := 5) rfl (by kernel_rfl) (by kernel_rfl) (by kernel_rfl) [] (by kernel_rfl) (fun _ _ _ h => h) rfl rfl (by decide) (fun _ h => h.upto ⟨rfl, rfl, rfl, trivial⟩) (qt_call ok_impl_compareBound rfl rfl (fun w h => compareBound_any _ _ _ _ _ _ w (by assumption) (by assumption))) ?_
        refine dg_q (i := 6) rfl (by kernel_rfl) (by kernel_rfl) (by kernel_rfl) [] (by kernel_rfl) (fun _ _ _ h => h) rfl rfl (by decide) (fun _ h => h.upto ⟨rfl, rfl, rfl, trivial⟩) (qt_assign rfl rfl) ?_
        refine dg_done (by kernel_rfl) ?_
        refine norm_then ?_
        refine at_cutE [(67, .bool (upLow s x))] (C := [(0, _), (8, _), (9, _), (10, _)])  ⟨rfl, rfl, rfl, rfl, trivial⟩ (fun L hC_cut_7 => ?_) ?_
        · refine at_region ?_
          refine at_q rfl rfl (by decide) (qt_move rfl rfl) ?_
          refine at_q rfl rfl (by decide) (qt_gtr rfl rfl rfl) ?_
          refine at_q rfl rfl (by decide) (qt_move rfl rfl) ?_
          refine at_bsplit 59 rfl (fun g2 => ?_) (fun g2 => ?_)
          · try simp only [decide_eq_true_eq, decide_eq_false_iff_not, beq_iff_eq, beq_eq_false_iff_ne, Bool.not_eq_true', Bool.not_eq_false', Bool.not_true, Bool.not_false, Int.not_lt, Int.not_le, ne_eq, Nat.not_lt, Nat.not_le] at g2
            refine at_off rfl rfl rfl rfl (by decide) rfl (by decide) ?_
            refine at_off rfl rfl rfl rfl (by decide) rfl (by decide) ?_
            refine at_off rfl rfl rfl rfl (by decide) rfl (by decide) ?_
            refine at_offu rfl rfl rfl rfl rfl (by decide) ?_
            refine at_offu rfl rfl rfl rfl rfl (by decide) ?_
            refine at_offu rfl rfl rfl rfl rfl (by decide) ?_
            refine at_off rfl rfl rfl rfl (by decide) rfl (by decide) ?_
            refine at_q rfl rfl (by decide) (qt_pickT rfl rfl rfl) ?_
            refine at_end ?_
            exact at_meet hC_cut_7 ⟨vb (by have k := sgn_cases (x.ln * s.ld - s.ln * x.ld); symm; simp [upLow]; omega), rfl, rfl, rfl, rfl, trivial⟩ (fun _ h => h.upto ⟨rfl, rfl, rfl, trivial⟩)
          · try simp only [decide_eq_true_eq, decide_eq_false_iff_not, beq_iff_eq, beq_eq_false_iff_ne, Bool.not_eq_true', Bool.not_eq_false', Bool.not_true, Bool.not_false, Int.not_lt, Int.not_le, ne_eq, Nat.not_lt, Nat.not_le] at g2
            refine at_on rfl rfl rfl rfl ?_
            refine op_q rfl (by decide) (qt_move rfl rfl) ?_
            refine at_on rfl rfl rfl rfl ?_
            refine op_q rfl (by decide) (qt_eql rfl rfl rfl) ?_
            refine at_on rfl rfl rfl rfl ?_
            refine op_q rfl (by decide) (qt_move rfl rfl) ?_
            refine at_bsplit 62 rfl (fun g3 => ?_) (fun g3 => ?_)
            · try simp only [decide_eq_true_eq, decide_eq_false_iff_not, beq_iff_eq, beq_eq_false_iff_ne, Bool.not_eq_true', Bool.not_eq_false', Bool.not_true, Bool.not_false, Int.not_lt, Int.not_le, ne_eq, Nat.not_lt, Nat.not_le] at g3
              refine at_on rfl rfl rfl rfl ?_
              refine op_q rfl (by decide) (qt_fieldAddr rfl rfl tyf_impl_bound_2) ?_
              refine at_on rfl rfl rfl rfl ?_
              refine op_q rfl (by decide) (qt_load1 rfl rfl ty1_bool (rd1 (k := 1) rfl rfl)) ?_
              refine at_on rfl rfl rfl rfl ?_
              refine op_q rfl (by decide) (qt_not rfl rfl) ?_
              refine at_on rfl rfl rfl rfl ?_
              refine op_q rfl (by decide) (qt_pickT rfl rfl rfl) ?_
              refine at_q rfl rfl (by decide) (qt_pickF rfl rfl rfl) ?_
              refine at_end ?_
              exact at_meet hC_cut_7 ⟨vb (by have k := sgn_cases (x.ln * s.ld - s.ln * x.ld); have e : s.ln * x.ld - x.ln * s.ld = 0 := (by omega); simp [upLow, e]), rfl, rfl, rfl, rfl, trivial⟩ (fun _ h => h.upto ⟨rfl, rfl, rfl, trivial⟩)
            · try simp only [decide_eq_true_eq, decide_eq_false_iff_not, beq_iff_eq, beq_eq_false_iff_ne, Bool.not_eq_true', Bool.not_eq_false', Bool.not_true, Bool.not_false, Int.not_lt, Int.not_le, ne_eq, Nat.not_lt, Nat.not_le] at g3
              refine at_off rfl rfl rfl rfl (by decide) rfl (by decide) ?_
              refine at_off rfl rfl rfl rfl (by decide) rfl (by decide) ?_
              refine at_off rfl rfl rfl rfl (by decide) rfl (by decide) ?_
              refine at_on rfl rfl rfl rfl ?_
              refine op_q rfl (by decide) (qt_pickF rfl rfl rfl) ?_
              refine at_q rfl rfl (by decide) (qt_pickF rfl rfl rfl) ?_
              refine at_end ?_
              exact at_meet hC_cut_7 ⟨vb (by have k := sgn_cases (x.ln * s.ld - s.ln * x.ld); symm; simp [upLow]; omega), rfl, rfl, rfl, rfl, trivial⟩ (fun _ h => h.upto ⟨rfl, rfl, rfl, trivial⟩)
        · refine at_envE (by simp only [List.nil_append, List.cons_append]; rfl) ?_
          refine at_cond rfl (fun c3 => ?_) (fun c3 => ?_)
          · try simp only [decide_eq_true_eq, decide_eq_false_iff_not, beq_iff_eq, beq_eq_false_iff_ne, Bool.not_eq_true', Bool.not_eq_false', Bool.not_true, Bool.not_false, Int.not_lt, Int.not_le, ne_eq, Nat.not_lt, Nat.not_le] at c3
            refine at_region ?_
            refine at_q rfl rfl (by decide) (qt_move rfl rfl) ?_
            refine at_q rfl rfl (by decide) (qt_loadS rfl rfl tys_impl_bound rfl (rdAll (k := 1) rfl)) ?_
            refine at_q rfl rfl (by decide) (qt_nilCheck rfl rfl) ?_
            refine at_q rfl rfl (by decide) (qt_fieldAddr rfl rfl tyf_impl_pixelWalk_0) ?_
            refine at_op rfl ?_
            refine op_store_6_0_3 (k := 0) rfl rfl rfl rfl (rfl) (by rfl) tyz_impl_bound.szx rfl ?_
            refine at_rsE (by simp only [List.nil_append, List.cons_append, List.set_cons_zero, List.set_cons_succ, Value.cells, List.toList_toArray]; rfl) ?_
            refine at_end ?_
            exact at_meet hC_cutif_t67 ⟨rfl, rfl, rfl, trivial⟩ (fun _ h => h.upto ⟨by rw [meetLow, if_pos c3] <;> rfl, rfl, rfl, trivial⟩)
          · try simp only [decide_eq_true_eq, decide_eq_false_iff_not, beq_iff_eq, beq_eq_false_iff_ne, Bool.not_eq_true', Bool.not_eq_false', Bool.not_true, Bool.not_false, Int.not_lt, Int.not_le, ne_eq, Nat.not_lt, Nat.not_le] at c3
            refine at_skip ?_
            refine norm_then ?_
            exact at_meet hC_cutif_t67 ⟨rfl, rfl, rfl, trivial⟩ (fun _ h => h.upto ⟨by rw [meetLow, c3] <;> rfl, rfl, rfl, trivial⟩)
      · refine at_envE (by simp only [List.nil_append, List.cons_append]; rfl) ?_
        refine at_cut [] (C := [(0, _), (8, _)]) ([.cel b 103 (spCs (spMeet s x)), .cel b1 101 [.int .i64 x.ln, .int .i64 x.ld, .bool x.lc], .cel b2 101 [.int .i64 x.hn, .int .i64 x.hd, .bool x.hc]]) ⟨rfl, rfl, trivial⟩ (fun L hC_cutif_t88 => ?_) ?_
        · refine at_seq ?_
          refine dg_start mixed rfl ?_
          refine dg_phase 7 ?_
          refine dg_q (i := 0) rfl (by kernel_rfl) (by kernel_rfl) (by kernel_rfl) [] (by kernel_rfl) (fun _ _ _ h => h) rfl rfl (by decide) (fun _ h => h.upto ⟨rfl, rfl, rfl, trivial⟩) (qt_loadS rfl rfl tys_impl_bound rfl (rdAll (k := 2) rfl)) ?_
          refine dg_q (i := 1) rfl (by kernel_rfl) (by kernel_rfl) (by kernel_rfl) [] (by kernel_rfl) (fun _ _ _ h => h) rfl rfl (by decide) (fun _ h => h.upto ⟨rfl, rfl, rfl, trivial⟩) (qt_move rfl rfl) ?_
          refine dg_q (i := 2) rfl (by kernel_rfl) (by kernel_rfl) (by kernel_rfl) [] (by kernel_rfl) (fun _ _ _ h => h) rfl rfl (by decide) (fun _ h => h.upto ⟨rfl, rfl, rfl, trivial⟩) (qt_nilCheck rfl rfl) ?_
          refine dg_q (i := 3) rfl (by kernel_rfl) (by kernel_rfl) (by kernel_rfl) [] (by kernel_rfl) (fun _ _ _ h => h) rfl rfl (by decide) (fun _ h => h.upto ⟨rfl, rfl, rfl, trivial⟩) (qt_fieldAddr rfl rfl tyf_impl_pixelWalk_1) ?_
          refine dg_q (i := 4) rfl (by kernel_rfl) (by kernel_rfl) (by kernel_rfl) [] (by kernel_rfl) (fun _ _ _ h => h) rfl rfl (by decide) (fun _ h => h.upto ⟨rfl, rfl, rfl, trivial⟩) (qt_loadS rfl rfl tys_impl_bound rfl (rd3 (k := 0) rfl rfl rfl rfl)) ?_
          refine dg_q (i := 5) rfl (by kernel_rfl) (by kernel_rfl) (by kernel_rfl) [] (by kernel_rfl) (fun _ _ _ h => h) rfl rfl (by decide) (fun _ h => h.upto ⟨rfl, rfl, rfl, trivial⟩) (qt_call ok_impl_compareBound rfl rfl (fun w h => compareBound_any _ _ _ _ _ _ w (by assumption) (by assumption))) ?_
          refine dg_q (i := 6) rfl (by kernel_rfl) (by kernel_rfl) (by kernel_rfl) [] (by kernel_rfl) (fun _ _ _ h => h) rfl rfl (by decide) (fun _ h => h.upto ⟨rfl, rfl, rfl, trivial⟩) (qt_assign rfl rfl) ?_
          refine dg_done (by kernel_rfl) ?_
          refine norm_then ?_
          refine at_cutE [(88, .bool (upHigh (meetLow s x) x))] (C := [(0, _), (8, _), (10, _)])  ⟨rfl, rfl, rfl, trivial⟩ (fun L hC_cut_10 => ?_) ?_
          · refine at_region ?_
            refine at_q rfl rfl (by decide) (qt_move rfl rfl) ?_
            refine at_q rfl rfl (by decide) (qt_lss rfl rfl rfl) ?_
            refine at_q rfl rfl (by decide) (qt_move rfl rfl) ?_
            refine at_bsplit 80 rfl (fun g4 => ?_) (fun g4 => ?_)
            · try simp only [decide_eq_true_eq, decide_eq_false_iff_not, beq_iff_eq, beq_eq_false_iff_ne, Bool.not_eq_true', Bool.not_eq_false', Bool.not_true, Bool.not_false, Int.not_lt, Int.not_le, ne_eq, Nat.not_lt, Nat.not_le] at g4
              refine at_off rfl rfl rfl rfl (by decide) rfl (by decide) ?_
              refine at_off rfl rfl rfl rfl (by decide) rfl (by decide) ?_
              refine at_off rfl rfl rfl rfl (by decide) rfl (by decide) ?_
              refine at_offu rfl rfl rfl rfl rfl (by decide) ?_
              refine at_offu rfl rfl rfl rfl rfl (by decide) ?_
              refine at_offu rfl rfl rfl rfl rfl (by decide) ?_
              refine at_off rfl rfl rfl rfl (by decide) rfl (by decide) ?_
              refine at_q rfl rfl (by decide) (qt_pickT rfl rfl rfl) ?_
              refine at_end ?_
              exact at_meet hC_cut_10 ⟨vb (by have k := sgn_cases (x.hn * (meetLow s x).hd - (meetLow s x).hn * x.hd); symm; simp [upHigh]; omega), rfl, rfl, rfl, trivial⟩ (fun _ h => h.upto ⟨rfl, rfl, rfl, trivial⟩)
            · try simp only [decide_eq_true_eq, decide_eq_false_iff_not, beq_iff_eq, beq_eq_false_iff_ne, Bool.not_eq_true', Bool.not_eq_false', Bool.not_true, Bool.not_false, Int.not_lt, Int.not_le, ne_eq, Nat.not_lt, Nat.not_le] at g4
              refine at_on rfl rfl rfl rfl ?_
              refine op_q rfl (by decide) (qt_move rfl rfl) ?_
              refine at_on rfl rfl rfl rfl ?_
              refine op_q rfl (by decide) (qt_eql rfl rfl rfl) ?_
              refine at_on rfl rfl rfl rfl ?_
              refine op_q rfl (by decide) (qt_move rfl rfl) ?_
              refine at_bsplit 83 rfl (fun g5 => ?_) (fun g5 => ?_)
              · try simp only [decide_eq_true_eq, decide_eq_false_iff_not, beq_iff_eq, beq_eq_false_iff_ne, Bool.not_eq_true', Bool.not_eq_false', Bool.not_true, Bool.not_false, Int.not_lt, Int.not_le, ne_eq, Nat.not_lt, Nat.not_le] at g5
                refine at_on rfl rfl rfl rfl ?_
                refine op_q rfl (by decide) (qt_fieldAddr rfl rfl tyf_impl_bound_2) ?_
                refine at_on rfl rfl rfl rfl ?_
                refine op_q rfl (by decide) (qt_load1 rfl rfl ty1_bool (rd1 (k := 2) rfl rfl)) ?_
                refine at_on rfl rfl rfl rfl ?_
                refine op_q rfl (by decide) (qt_not rfl rfl) ?_
                refine at_on rfl rfl rfl rfl ?_
                refine op_q rfl (by decide) (qt_pickT rfl rfl rfl) ?_
                refine at_q rfl rfl (by decide) (qt_pickF rfl rfl rfl) ?_
                refine at_end ?_
                exact at_meet hC_cut_10 ⟨vb (by have k := sgn_cases (x.hn * (meetLow s x).hd - (meetLow s x).hn * x.hd); have e : (meetLow s x).hn * x.hd - x.hn * (meetLow s x).hd = 0 := (by omega); simp [upHigh, e]), rfl, rfl, rfl, trivial⟩ (fun _ h => h.upto ⟨rfl, rfl, rfl, trivial⟩)
              · try simp only [decide_eq_true_eq, decide_eq_false_iff_not, beq_iff_eq, beq_eq_false_iff_ne, Bool.not_eq_true', Bool.not_eq_false', Bool.not_true, Bool.not_false, Int.not_lt, Int.not_le, ne_eq, Nat.not_lt, Nat.not_le] at g5
                refine at_off rfl rfl rfl rfl (by decide) rfl (by decide) ?_
                refine at_off rfl rfl rfl rfl (by decide) rfl (by decide) ?_
                refine at_off rfl rfl rfl rfl (by decide) rfl (by decide) ?_
                refine at_on rfl rfl rfl rfl ?_
                refine op_q rfl (by decide) (qt_pickF rfl rfl rfl) ?_
                refine at_q rfl rfl (by decide) (qt_pickF rfl rfl rfl) ?_
                refine at_end ?_
                exact at_meet hC_cut_10 ⟨vb (by have k := sgn_cases (x.hn * (meetLow s x).hd - (meetLow s x).hn * x.hd); symm; simp [upHigh]; omega), rfl, rfl, rfl, trivial⟩ (fun _ h => h.upto ⟨rfl, rfl, rfl, trivial⟩)
          · refine at_envE (by simp only [List.nil_append, List.cons_append]; rfl) ?_
            refine at_cond rfl (fun c4 => ?_) (fun c4 => ?_)
            · try simp only [decide_eq_true_eq, decide_eq_false_iff_not, beq_iff_eq, beq_eq_false_iff_ne, Bool.not_eq_true', Bool.not_eq_false', Bool.not_true, Bool.not_false, Int.not_lt, Int.not_le, ne_eq, Nat.not_lt, Nat.not_le] at c4
              refine at_region ?_
              refine at_q rfl rfl (by decide) (qt_move rfl rfl) ?_
              refine at_q rfl rfl (by decide) (qt_loadS rfl rfl tys_impl_bound rfl (rdAll (k := 2) rfl)) ?_
              refine at_q rfl rfl (by decide) (qt_nilCheck rfl rfl) ?_
              refine at_q rfl rfl (by decide) (qt_fieldAddr rfl rfl tyf_impl_pixelWalk_1) ?_
              refine at_op rfl ?_
              refine op_store_6_3_3 (k := 0) rfl rfl rfl rfl (rfl) (by rfl) tyz_impl_bound.szx rfl ?_
              refine at_rsE (by simp only [List.nil_append, List.cons_append, List.set_cons_zero, List.set_cons_succ, Value.cells, List.toList_toArray]; rfl) ?_
              refine at_end ?_
              exact at_meet hC_cutif_t88 ⟨rfl, rfl, trivial⟩ (fun _ h => h.upto ⟨by rw [spMeet, meetHigh, if_pos c4] <;> rfl, rfl, rfl, trivial⟩)
            · try simp only [decide_eq_true_eq, decide_eq_false_iff_not, beq_iff_eq, beq_eq_false_iff_ne, Bool.not_eq_true', Bool.not_eq_false', Bool.not_true, Bool.not_false, Int.not_lt, Int.not_le, ne_eq, Nat.not_lt, Nat.not_le] at c4
              refine at_skip ?_
              refine norm_then ?_
              exact at_meet hC_cutif_t88 ⟨rfl, rfl, trivial⟩ (fun _ h => h.upto ⟨by rw [spMeet, meetHigh, c4] <;> rfl, rfl, rfl, trivial⟩)
        · refine at_envE (by simp only [List.nil_append, List.cons_append]; rfl) ?_
          refine at_seq ?_
          refine dg_start mixed rfl ?_
          refine dg_phase 10 ?_
          refine dg_q (i := 0) rfl (by kernel_rfl) (by kernel_rfl) (by kernel_rfl) [] (by kernel_rfl) (fun _ _ _ h => h) rfl rfl (by decide) (fun _ h => h.upto ⟨rfl, rfl, rfl, trivial⟩) (qt_move rfl rfl) ?_
          refine dg_q (i := 1) rfl (by kernel_rfl) (by kernel_rfl) (by kernel_rfl) [] (by kernel_rfl) (fun _ _ _ h => h) rfl rfl (by decide) (fun _ h => h.upto ⟨rfl, rfl, rfl, trivial⟩) (qt_nilCheck rfl rfl) ?_
          refine dg_q (i := 2) rfl (by kernel_rfl) (by kernel_rfl) (by kernel_rfl) [] (by kernel_rfl) (fun _ _ _ h => h) rfl rfl (by decide) (fun _ h => h.upto ⟨rfl, rfl, rfl, trivial⟩) (qt_fieldAddr rfl rfl tyf_impl_pixelWalk_0) ?_
          refine dg_q (i := 3) rfl (by kernel_rfl) (by kernel_rfl) (by kernel_rfl) [] (by kernel_rfl) (fun _ _ _ h => h) rfl rfl (by decide) (fun _ h => h.upto ⟨rfl, rfl, rfl, trivial⟩) (qt_loadS rfl rfl tys_impl_bound rfl (rd3 (k := 0) rfl rfl rfl rfl)) ?_
          refine dg_q (i := 4) rfl (by kernel_rfl) (by kernel_rfl) (by kernel_rfl) [] (by kernel_rfl) (fun _ _ _ h => h) rfl rfl (by decide) (fun _ h => h.upto ⟨rfl, rfl, rfl, trivial⟩) (qt_move rfl rfl) ?_
          refine dg_q (i := 5) rfl (by kernel_rfl) (by kernel_rfl) (by kernel_rfl) [] (by kernel_rfl) (fun _ _ _ h => h) rfl rfl (by decide) (fun _ h => h.upto ⟨rfl, rfl, rfl, trivial⟩) (qt_nilCheck rfl rfl) ?_
          refine dg_q (i := 6) rfl (by kernel_rfl) (by kernel_rfl) (by kernel_rfl) [] (by kernel_rfl) (fun _ _ _ h => h) rfl rfl (by decide) (fun _ h => h.upto ⟨rfl, rfl, rfl, trivial⟩) (qt_fieldAddr rfl rfl tyf_impl_pixelWalk_1) ?_
          refine dg_q (i := 7) rfl (by kernel_rfl) (by kernel_rfl) (by kernel_rfl) [] (by kernel_rfl) (fun _ _ _ h => h) rfl rfl (by decide) (fun _ h => h.upto ⟨rfl, rfl, rfl, trivial⟩) (qt_loadS rfl rfl tys_impl_bound rfl (rd3 (k := 0) rfl rfl rfl rfl)) ?_
          refine dg_q (i := 8) rfl (by kernel_rfl) (by kernel_rfl) (by kernel_rfl) [] (by kernel_rfl) (fun _ _ _ h => h) rfl rfl (by decide) (fun _ h => h.upto ⟨rfl, rfl, rfl, trivial⟩) (qt_call ok_impl_compareBound rfl rfl (fun w h => compareBound_any _ _ _ _ _ _ w (by assumption) (by assumption))) ?_
          refine dg_q (i := 9) rfl (by kernel_rfl) (by kernel_rfl) (by kernel_rfl) [] (by kernel_rfl) (fun _ _ _ h => h) rfl rfl (by decide) (fun _ h => h.upto ⟨rfl, rfl, rfl, trivial⟩) (qt_assign rfl rfl) ?_
          refine dg_done (by kernel_rfl) ?_
          refine norm_then ?_
          refine at_seq ?_
          refine at_region ?_
          refine at_q rfl rfl (by decide) (qt_move rfl rfl) ?_
          refine at_q rfl rfl (by decide) (qt_lss rfl rfl rfl) ?_
          refine at_q rfl rfl (by decide) (qt_move rfl rfl) ?_
          refine at_bsplit 104 rfl (fun g6 => ?_) (fun g6 => ?_)
          · try simp only [decide_eq_true_eq, decide_eq_false_iff_not, beq_iff_eq, beq_eq_false_iff_ne, Bool.not_eq_true', Bool.not_eq_false', Bool.not_true, Bool.not_false, Int.not_lt, Int.not_le, ne_eq, Nat.not_lt, Nat.not_le] at g6
            refine at_off rfl rfl rfl rfl (by decide) rfl (by decide) ?_
            refine at_off rfl rfl rfl rfl (by decide) rfl (by decide) ?_
            refine at_off rfl rfl rfl rfl (by decide) rfl (by decide) ?_
            refine at_offu rfl rfl rfl rfl rfl (by decide) ?_
            refine at_offu rfl rfl rfl rfl rfl (by decide) ?_
            refine at_offu rfl rfl rfl rfl rfl (by decide) ?_
            refine at_offu rfl rfl rfl rfl rfl (by decide) ?_
            refine at_offu rfl rfl rfl rfl rfl (by decide) ?_
            refine at_off rfl rfl rfl rfl (by decide) rfl (by decide) ?_
            refine at_off rfl rfl rfl rfl (by decide) rfl (by decide) ?_
            refine at_offu rfl rfl rfl rfl rfl (by decide) ?_
            refine at_offu rfl rfl rfl rfl rfl (by decide) ?_
            refine at_offu rfl rfl rfl rfl rfl (by decide) ?_
            refine at_offu rfl rfl rfl rfl rfl (by decide) ?_
            refine at_offu rfl rfl rfl rfl rfl (by decide) ?_
            refine at_off rfl rfl rfl rfl (by decide) rfl (by decide) ?_
            refine at_q rfl rfl (by decide) (qt_pickT rfl rfl rfl) ?_
            refine at_q rfl rfl (by decide) (qt_assign rfl rfl) ?_
            refine at_end ?_
            refine at_retc ?_
            refine at_ret1 rfl (.tmp rfl) ?_
            intro w' hs
            have k := sgn_cases ((spMeet s x).ln * (spMeet s x).hd - (spMeet s x).hn * (spMeet s x).ld)
            exact ⟨retB (by rw [clipB, if_neg c1, ex]; symm; simp [nonE]; omega), hs.over.wr, by rw [clipS, if_neg c1, ex]; exact hs.cel (k := 0) rfl⟩
          · try simp only [decide_eq_true_eq, decide_eq_false_iff_not, beq_iff_eq, beq_eq_false_iff_ne, Bool.not_eq_true', Bool.not_eq_false', Bool.not_true, Bool.not_false, Int.not_lt, Int.not_le, ne_eq, Nat.not_lt, Nat.not_le] at g6
            refine at_on rfl rfl rfl rfl ?_
            refine op_q rfl (by decide) (qt_move rfl rfl) ?_
            refine at_on rfl rfl rfl rfl ?_
            refine op_q rfl (by decide) (qt_eql rfl rfl rfl) ?_
            refine at_on rfl rfl rfl rfl ?_
            refine op_q rfl (by decide) (qt_move rfl rfl) ?_
            refine at_bsplit 107 rfl (fun g7 => ?_) (fun g7 => ?_)
            · try simp only [decide_eq_true_eq, decide_eq_false_iff_not, beq_iff_eq, beq_eq_false_iff_ne, Bool.not_eq_true', Bool.not_eq_false', Bool.not_true, Bool.not_false, Int.not_lt, Int.not_le, ne_eq, Nat.not_lt, Nat.not_le] at g7
              refine at_on rfl rfl rfl rfl ?_
              refine op_q rfl (by decide) (qt_move rfl rfl) ?_
              refine at_on rfl rfl rfl rfl ?_
              refine op_q rfl (by decide) (qt_nilCheck rfl rfl) ?_
              refine at_on rfl rfl rfl rfl ?_
              refine op_q rfl (by decide) (qt_fieldAddr rfl rfl tyf_impl_pixelWalk_0) ?_
              refine at_on rfl rfl rfl rfl ?_
              refine op_q rfl (by decide) (qt_fieldAddr rfl rfl tyf_impl_bound_2) ?_
              refine at_on rfl rfl rfl rfl ?_
              refine op_q rfl (by decide) (qt_load1 rfl rfl ty1_bool (rd1 (k := 0) rfl rfl)) ?_
              refine at_on rfl rfl rfl rfl ?_
              refine op_q rfl (by decide) (qt_pickT rfl rfl rfl) ?_
              refine at_on rfl rfl rfl rfl ?_
              refine op_q rfl (by decide) (qt_move rfl rfl) ?_
              refine at_bsplit 114 rfl (fun g8 => ?_) (fun g8 => ?_)
              · try simp only [decide_eq_true_eq, decide_eq_false_iff_not, beq_iff_eq, beq_eq_false_iff_ne, Bool.not_eq_true', Bool.not_eq_false', Bool.not_true, Bool.not_false, Int.not_lt, Int.not_le, ne_eq, Nat.not_lt, Nat.not_le] at g8
                refine at_on rfl rfl rfl rfl ?_
                refine op_q rfl (by decide) (qt_move rfl rfl) ?_
                refine at_on rfl rfl rfl rfl ?_
                refine op_q rfl (by decide) (qt_nilCheck rfl rfl) ?_
                refine at_on rfl rfl rfl rfl ?_
                refine op_q rfl (by decide) (qt_fieldAddr rfl rfl tyf_impl_pixelWalk_1) ?_
                refine at_on rfl rfl rfl rfl ?_
                refine op_q rfl (by decide) (qt_fieldAddr rfl rfl tyf_impl_bound_2) ?_
                refine at_on rfl rfl rfl rfl ?_
                refine op_q rfl (by decide) (qt_load1 rfl rfl ty1_bool (rd1 (k := 0) rfl rfl)) ?_
                refine at_on rfl rfl rfl rfl ?_
                refine op_q rfl (by decide) (qt_pickT rfl rfl rfl) ?_
                refine at_q rfl rfl (by decide) (qt_pickF rfl rfl rfl) ?_
                refine at_q rfl rfl (by decide) (qt_assign rfl rfl) ?_
                refine at_end ?_
                refine at_retc ?_
                refine at_ret1 rfl (.tmp rfl) ?_
                intro w' hs
                have k := sgn_cases ((spMeet s x).ln * (spMeet s x).hd - (spMeet s x).hn * (spMeet s x).ld)
                have e : (spMeet s x).ln * (spMeet s x).hd - (spMeet s x).hn * (spMeet s x).ld = 0 := (by omega)
                exact ⟨retB (by rw [clipB, if_neg c1, ex]; simp [nonE, e, *]), hs.over.wr, by rw [clipS, if_neg c1, ex]; exact hs.cel (k := 0) rfl⟩
              · try simp only [decide_eq_true_eq, decide_eq_false_iff_not, beq_iff_eq, beq_eq_false_iff_ne, Bool.not_eq_true', Bool.not_eq_false', Bool.not_true, Bool.not_false, Int.not_lt, Int.not_le, ne_eq, Nat.not_lt, Nat.not_le] at g8
                refine at_off rfl rfl rfl rfl (by decide) rfl (by decide) ?_
                refine at_off rfl rfl rfl rfl (by decide) rfl (by decide) ?_
                refine at_off rfl rfl rfl rfl (by decide) rfl (by decide) ?_
                refine at_off rfl rfl rfl rfl (by decide) rfl (by decide) ?_
                refine at_off rfl rfl rfl rfl (by decide) rfl (by decide) ?_
                refine at_on rfl rfl rfl rfl ?_
                refine op_q rfl (by decide) (qt_pickF rfl rfl rfl) ?_
                refine at_q rfl rfl (by decide) (qt_pickF rfl rfl rfl) ?_
                refine at_q rfl rfl (by decide) (qt_assign rfl rfl) ?_
                refine at_end ?_
                refine at_retc ?_
                refine at_ret1 rfl (.tmp rfl) ?_
                intro w' hs
                have k := sgn_cases ((spMeet s x).ln * (spMeet s x).hd - (spMeet s x).hn * (spMeet s x).ld)
                have e : (spMeet s x).ln * (spMeet s x).hd - (spMeet s x).hn * (spMeet s x).ld = 0 := (by omega)
                exact ⟨retB (by rw [clipB, if_neg c1, ex]; simp [nonE, e, *]), hs.over.wr, by rw [clipS, if_neg c1, ex]; exact hs.cel (k := 0) rfl⟩
            · try simp only [decide_eq_true_eq, decide_eq_false_iff_not, beq_iff_eq, beq_eq_false_iff_ne, Bool.not_eq_true', Bool.not_eq_false', Bool.not_true, Bool.not_false, Int.not_lt, Int.not_le, ne_eq, Nat.not_lt, Nat.not_le] at g7
              refine at_off rfl rfl rfl rfl (by decide) rfl (by decide) ?_
              refine at_off rfl rfl rfl rfl (by decide) rfl (by decide) ?_
              refine at_off rfl rfl rfl rfl (by decide) rfl (by decide) ?_
              refine at_off rfl rfl rfl rfl (by decide) rfl (by decide) ?_
              refine at_off rfl rfl rfl rfl (by decide) rfl (by decide) ?_
              refine at_on rfl rfl rfl rfl ?_
              refine op_q rfl (by decide) (qt_pickF rfl rfl rfl) ?_
              refine at_on rfl rfl rfl rfl ?_
              refine op_q rfl (by decide) (qt_move rfl rfl) ?_
              refine at_off rfl rfl rfl rfl (by decide) rfl (by decide) ?_
              refine at_off rfl rfl rfl rfl (by decide) rfl (by decide) ?_
              refine at_off rfl rfl rfl rfl (by decide) rfl (by decide) ?_
              refine at_off rfl rfl rfl rfl (by decide) rfl (by decide) ?_
              refine at_off rfl rfl rfl rfl (by decide) rfl (by decide) ?_
              refine at_on rfl rfl rfl rfl ?_
              refine op_q rfl (by decide) (qt_pickF rfl rfl rfl) ?_
              refine at_q rfl rfl (by decide) (qt_pickF rfl rfl rfl) ?_
              refine at_q rfl rfl (by decide) (qt_assign rfl rfl) ?_
              refine at_end ?_
              refine at_retc ?_
              refine at_ret1 rfl (.tmp rfl) ?_
              intro w' hs
              have k := sgn_cases ((spMeet s x).ln * (spMeet s x).hd - (spMeet s x).hn * (spMeet s x).ld)
              exact ⟨retB (by rw [clipB, if_neg c1, ex]; symm; simp [nonE]; omega), hs.over.wr, by rw [clipS, if_neg c1, ex]; exact hs.cel (k := 0) rfl⟩
end Go.Proofs.Ytakdjgldcpompaa
