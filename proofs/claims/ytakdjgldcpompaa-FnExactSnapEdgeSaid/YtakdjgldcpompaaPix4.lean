/- The part of a segment in a pixel: the program's and the reference's. -/
import Derived.Test.YtakdjgldcpompaaPix3
namespace Go.Proofs.Ytakdjgldcpompaa
open Go Go.RowKit
set_option linter.unusedVariables false
set_option linter.unusedSimpArgs false
set_option maxRecDepth 100000
set_option maxHeartbeats 4000000

abbrev walkV (s : Sp) : Value := .agg #[.int .i64 s.ln, .int .i64 s.ld, .bool s.lc, .int .i64 s.hn, .int .i64 s.hd, .bool s.hc]
theorem sp0_bd : bdP sp0 := ⟨⟨by decide, by decide⟩, by decide, by decide⟩
theorem clipS_bd {s : Sp} {f d lo : Int} (hs : bdP s) (hx : bdP (pixX f d lo)) : bdP (clipS s f d lo) := by
  unfold clipS; split
  · exact hs
  · exact meetHigh_bd (meetLow_bd hs hx) hx

theorem walkPixel_any (ax ay bx b_y px_ py_ : Int) (w : World) (ha : okB ax ay = true) (hb : okB bx b_y = true) (hp : okB px_ py_ = true) :
    Calls Try.prog 55 #[ptV ax ay, ptV bx b_y, ptV px_ py_] w fun e w' => e = .returned (.tuple #[walkV (if clipB sp0 (2 * ax) (2 * (bx - ax)) (2 * px_ - 1) = true then clipS (clipS sp0 (2 * ax) (2 * (bx - ax)) (2 * px_ - 1)) (2 * ay) (2 * (b_y - ay)) (2 * py_ - 1) else clipS sp0 (2 * ax) (2 * (bx - ax)) (2 * px_ - 1)),
      .bool (clipB sp0 (2 * ax) (2 * (bx - ax)) (2 * px_ - 1) && clipB (clipS sp0 (2 * ax) (2 * (bx - ax)) (2 * px_ - 1)) (2 * ay) (2 * (b_y - ay)) (2 * py_ - 1))]) ∧ Over w w' := by
  simp [okB, inB] at ha hb hp
  have hs1 := clipS_bd (f := 2 * ax) (d := 2 * (bx - ax)) (lo := 2 * px_ - 1) sp0_bd (pixX_bd _ _ _ (by omega) (by omega) (by omega) (by omega) (by omega) (by omega))
  refine walk_from (m := 45) (Try.func55) rfl rfl (Nat.le_of_ble_eq_true rfl) ?_
  refine at_seq ?_
  refine at_region ?_
  refine at_op rfl ?_
  refine op_box rfl rfl (rfl) rfl (by decide) (fun b1 => ?_)
  refine at_rsE (by simp only [List.nil_append, List.cons_append, List.set_cons_zero, List.set_cons_succ, Value.cells, List.toList_toArray]; rfl) ?_
  refine at_op rfl ?_
  refine op_box rfl rfl (rfl) rfl (by decide) (fun b2 => ?_)
  refine at_rsE (by simp only [List.nil_append, List.cons_append, List.set_cons_zero, List.set_cons_succ, Value.cells, List.toList_toArray]; rfl) ?_
  refine at_op rfl ?_
  refine op_box rfl rfl (rfl) rfl (by decide) (fun b3 => ?_)
  refine at_rsE (by simp only [List.nil_append, List.cons_append, List.set_cons_zero, List.set_cons_succ, Value.cells, List.toList_toArray]; rfl) ?_
  refine at_op rfl ?_
  refine op_alloc rfl tyz_impl_pixelWalk rfl (by decide) (fun b4 => ?_)
  refine at_rsE (by simp only [List.nil_append, List.cons_append, List.set_cons_zero, List.set_cons_succ, Value.cells, List.toList_toArray]; rfl) ?_
  refine at_q rfl rfl (by decide) (qt_assign rfl rfl) ?_
  refine at_end ?_
  refine at_seq ?_
  refine at_region ?_
  refine at_q rfl rfl (by decide) (qt_build rfl rfl (bld_impl_bound_0_1_2 rfl rfl rfl)) ?_
  refine at_q rfl rfl (by decide) (qt_build rfl rfl (bld_impl_bound_0_1_2 rfl rfl rfl)) ?_
  refine at_q rfl rfl (by decide) (qt_build rfl rfl (bld_impl_pixelWalk_0_1 rfl rfl)) ?_
  refine at_op rfl ?_
  refine op_alloc rfl tyz_impl_pixelWalk rfl (by decide) (fun b5 => ?_)
  refine at_rsE (by simp only [List.nil_append, List.cons_append, List.set_cons_zero, List.set_cons_succ, Value.cells, List.toList_toArray]; rfl) ?_
  refine at_op rfl ?_
  refine op_storeAll' (k := 4) rfl rfl rfl rfl (rfl) (by rfl) tyz_impl_pixelWalk.szx rfl rfl rfl ?_
  refine at_rsE (by simp only [List.nil_append, List.cons_append, List.set_cons_zero, List.set_cons_succ, Value.cells, List.toList_toArray]; rfl) ?_
  refine at_end ?_
  refine at_seq ?_
  refine at_rs (Rs' := [.cel b1 29 [.int .i64 ax, .int .i64 ay], .cel b2 29 [.int .i64 bx, .int .i64 b_y], .cel b3 29 [.int .i64 px_, .int .i64 py_], .cel b4 103 [.int .i64 0, .int .i64 0, .bool false, .int .i64 0, .int .i64 0, .bool false], .cel b5 103 (spCs sp0)]) (fun _ h => h) ?_
  refine at_region ?_
  refine at_q rfl rfl (by decide) (qt_fieldAddr rfl rfl tyf_impl_Pt_0) ?_
  refine at_q rfl rfl (by decide) (qt_load1 rfl rfl ty1_int64 (rd1 (k := 0) rfl rfl)) ?_
  refine at_q rfl rfl (by decide) (qt_mul rfl rfl rfl (by omega) (by omega)) ?_
  refine at_q rfl rfl (by decide) (qt_fieldAddr rfl rfl tyf_impl_Pt_0) ?_
  refine at_q rfl rfl (by decide) (qt_load1 rfl rfl ty1_int64 (rd1 (k := 1) rfl rfl)) ?_
  refine at_q rfl rfl (by decide) (qt_fieldAddr rfl rfl tyf_impl_Pt_0) ?_
  refine at_q rfl rfl (by decide) (qt_load1 rfl rfl ty1_int64 (rd1 (k := 0) rfl rfl)) ?_
  refine at_q rfl rfl (by decide) (qt_sub rfl rfl rfl (by omega) (by omega)) ?_
  refine at_q rfl rfl (by decide) (qt_mul rfl rfl rfl (by omega) (by omega)) ?_
  refine at_q rfl rfl (by decide) (qt_fieldAddr rfl rfl tyf_impl_Pt_0) ?_
  refine at_q rfl rfl (by decide) (qt_load1 rfl rfl ty1_int64 (rd1 (k := 2) rfl rfl)) ?_
  refine at_q rfl rfl (by decide) (qt_mul rfl rfl rfl (by omega) (by omega)) ?_
  refine at_q rfl rfl (by decide) (qt_sub rfl rfl rfl (by omega) (by omega)) ?_
  refine at_op rfl ?_
  refine op_callm (k := 4) ok_p_impl_pixelWalk_clip rfl rfl rfl (by decide) rfl (fun w h => clip_any b5 sp0 (2 * ax) (2 * (bx - ax)) (2 * px_ - 1) w sp0_bd (by omega) (by omega) (by omega) (by omega) (by omega) (by omega) (h.cel (k := 4) rfl)) ?_
  refine at_rsE (by simp only [List.nil_append, List.cons_append, List.set_cons_zero, List.set_cons_succ, Value.cells, List.toList_toArray]; rfl) ?_
  refine at_q rfl rfl (by decide) (qt_move rfl rfl) ?_
  refine at_bsplit 27 rfl (fun g1 => ?_) (fun g1 => ?_)
  · try simp only [decide_eq_true_eq, decide_eq_false_iff_not, beq_iff_eq, beq_eq_false_iff_ne, Bool.not_eq_true', Bool.not_eq_false', Bool.not_true, Bool.not_false, Int.not_lt, Int.not_le, ne_eq, Nat.not_lt, Nat.not_le] at g1
    refine at_on rfl rfl rfl rfl ?_
    refine op_q rfl (by decide) (qt_fieldAddr rfl rfl tyf_impl_Pt_1) ?_
    refine at_on rfl rfl rfl rfl ?_
    refine op_q rfl (by decide) (qt_load1 rfl rfl ty1_int64 (rd1 (k := 0) rfl rfl)) ?_
    refine at_on rfl rfl rfl rfl ?_
    refine op_q rfl (by decide) (qt_mul rfl rfl rfl (by omega) (by omega)) ?_
    refine at_on rfl rfl rfl rfl ?_
    refine op_q rfl (by decide) (qt_fieldAddr rfl rfl tyf_impl_Pt_1) ?_
    refine at_on rfl rfl rfl rfl ?_
    refine op_q rfl (by decide) (qt_load1 rfl rfl ty1_int64 (rd1 (k := 1) rfl rfl)) ?_
    refine at_on rfl rfl rfl rfl ?_
    refine op_q rfl (by decide) (qt_fieldAddr rfl rfl tyf_impl_Pt_1) ?_
    refine at_on rfl rfl rfl rfl ?_
    refine op_q rfl (by decide) (qt_load1 rfl rfl ty1_int64 (rd1 (k := 0) rfl rfl)) ?_
    refine at_on rfl rfl rfl rfl ?_
    refine op_q rfl (by decide) (qt_sub rfl rfl rfl (by omega) (by omega)) ?_
    refine at_on rfl rfl rfl rfl ?_
    refine op_q rfl (by decide) (qt_mul rfl rfl rfl (by omega) (by omega)) ?_
    refine at_on rfl rfl rfl rfl ?_
    refine op_q rfl (by decide) (qt_fieldAddr rfl rfl tyf_impl_Pt_1) ?_
    refine at_on rfl rfl rfl rfl ?_
    refine op_q rfl (by decide) (qt_load1 rfl rfl ty1_int64 (rd1 (k := 2) rfl rfl)) ?_
    refine at_on rfl rfl rfl rfl ?_
    refine op_q rfl (by decide) (qt_mul rfl rfl rfl (by omega) (by omega)) ?_
    refine at_on rfl rfl rfl rfl ?_
    refine op_q rfl (by decide) (qt_sub rfl rfl rfl (by omega) (by omega)) ?_
    refine at_on rfl rfl rfl rfl ?_
    refine op_callm (k := 4) ok_p_impl_pixelWalk_clip rfl rfl rfl (by decide) rfl (fun w h => clip_any b5 (clipS sp0 (2 * ax) (2 * (bx - ax)) (2 * px_ - 1)) (2 * ay) (2 * (b_y - ay)) (2 * py_ - 1) w hs1 (by omega) (by omega) (by omega) (by omega) (by omega) (by omega) (h.cel (k := 4) rfl)) ?_
    refine at_rsE (by simp only [List.nil_append, List.cons_append, List.set_cons_zero, List.set_cons_succ, Value.cells, List.toList_toArray]; rfl) ?_
    refine at_q rfl rfl (by decide) (qt_pickT rfl rfl rfl) ?_
    refine at_q rfl rfl (by decide) (qt_assign rfl rfl) ?_
    refine at_end ?_
    refine at_seq ?_
    refine at_region ?_
    refine at_q rfl rfl (by decide) (qt_loadS rfl rfl tys_impl_pixelWalk rfl (rdAll (k := 4) rfl)) ?_
    refine at_q rfl rfl (by decide) (qt_move rfl rfl) ?_
    refine at_op rfl ?_
    refine op_storeAll' (k := 3) rfl rfl rfl rfl (rfl) (by rfl) tyz_impl_pixelWalk.szx rfl rfl rfl ?_
    refine at_rsE (by simp only [List.nil_append, List.cons_append, List.set_cons_zero, List.set_cons_succ, Value.cells, List.toList_toArray]; rfl) ?_
    refine at_q rfl rfl (by decide) (qt_assign rfl rfl) ?_
    refine at_end ?_
    refine at_retc ?_
    refine at_ret2 rfl (rvCelS (k := 3) rfl tys_impl_pixelWalk rfl rfl) (.tmp rfl) ?_
    intro w' hs
    exact ⟨by rw [if_pos g1, g1, Bool.true_and]; rfl, hs.fin⟩
  · try simp only [decide_eq_true_eq, decide_eq_false_iff_not, beq_iff_eq, beq_eq_false_iff_ne, Bool.not_eq_true', Bool.not_eq_false', Bool.not_true, Bool.not_false, Int.not_lt, Int.not_le, ne_eq, Nat.not_lt, Nat.not_le] at g1
    refine at_off rfl rfl rfl rfl (by decide) rfl (by decide) ?_
    refine at_off rfl rfl rfl rfl (by decide) rfl (by decide) ?_
    refine at_off rfl rfl rfl rfl (by decide) rfl (by decide) ?_
    refine at_off rfl rfl rfl rfl (by decide) rfl (by decide) ?_
    refine at_off rfl rfl rfl rfl (by decide) rfl (by decide) ?_
    refine at_off rfl rfl rfl rfl (by decide) rfl (by decide) ?_
    refine at_off rfl rfl rfl rfl (by decide) rfl (by decide) ?_
    refine at_off rfl rfl rfl rfl (by decide) rfl (by decide) ?_
    refine at_off rfl rfl rfl rfl (by decide) rfl (by decide) ?_
    refine at_off rfl rfl rfl rfl (by decide) rfl (by decide) ?_
    refine at_off rfl rfl rfl rfl (by decide) rfl (by decide) ?_
    refine at_off rfl rfl rfl rfl (by decide) rfl (by decide) ?_
    refine at_off rfl rfl rfl rfl (by decide) rfl (by decide) ?_
    refine at_off rfl rfl rfl rfl (by decide) rfl (by decide) ?_
    refine at_q rfl rfl (by decide) (qt_pickF rfl rfl rfl) ?_
    refine at_q rfl rfl (by decide) (qt_assign rfl rfl) ?_
    refine at_end ?_
    refine at_seq ?_
    refine at_region ?_
    refine at_q rfl rfl (by decide) (qt_loadS rfl rfl tys_impl_pixelWalk rfl (rdAll (k := 4) rfl)) ?_
    refine at_q rfl rfl (by decide) (qt_move rfl rfl) ?_
    refine at_op rfl ?_
    refine op_storeAll' (k := 3) rfl rfl rfl rfl (rfl) (by rfl) tyz_impl_pixelWalk.szx rfl rfl rfl ?_
    refine at_rsE (by simp only [List.nil_append, List.cons_append, List.set_cons_zero, List.set_cons_succ, Value.cells, List.toList_toArray]; rfl) ?_
    refine at_q rfl rfl (by decide) (qt_assign rfl rfl) ?_
    refine at_end ?_
    refine at_retc ?_
    refine at_ret2 rfl (rvCelS (k := 3) rfl tys_impl_pixelWalk rfl rfl) (.tmp rfl) ?_
    intro w' hs
    exact ⟨by rw [if_neg (by rw [g1]; simp), g1, Bool.false_and]; rfl, hs.fin⟩

/-! ### The reference -/
abbrev spV (s : Sp) : Value := .agg #[.int .i64 s.ln, .int .i64 s.ld, .int .i64 s.hn, .int .i64 s.hd, .bool s.lc, .bool s.hc]
def spC (s : Sp) : List Value := [.int .i64 s.ln, .int .i64 s.ld, .int .i64 s.hn, .int .i64 s.hd, .bool s.lc, .bool s.hc]
theorem l13Clip_any (f d lo hi : Int) (w : World) (hh : hi = lo + 2) (f1 : -1048576 ≤ f) (f2 : f ≤ 1048576) (d1 : -1048576 ≤ d) (d2 : d ≤ 1048576) (l1 : -1048576 ≤ lo) (l2 : lo ≤ 1048576) :
    Calls Try.prog 76 #[.int .i64 f, .int .i64 d, .int .i64 lo, .int .i64 hi] w fun e w' => e = .returned (.tuple #[spV (pixX f d lo), .bool (pixIn f d lo)]) ∧ Over w w' := by
  subst hh
  have tv : ∀ {s s' : Sp} {a a' : Bool}, s' = s → a' = a → Ending.returned (.tuple #[spV s, .bool a]) = Ending.returned (.tuple #[spV s', .bool a']) := fun h1 h2 => by rw [h1, h2]
  refine walk_from (m := 45) (Try.func76) rfl rfl (Nat.le_of_ble_eq_true rfl) ?_
  refine at_seq ?_
  refine at_region ?_
  refine at_op rfl ?_
  refine op_alloc rfl tyz_spec_l13Span rfl (by decide) (fun b1 => ?_)
  refine at_rsE (by simp only [List.nil_append, List.cons_append, List.set_cons_zero, List.set_cons_succ, Value.cells, List.toList_toArray]; rfl) ?_
  refine at_q rfl rfl (by decide) (qt_assign rfl rfl) ?_
  refine at_end ?_
  refine at_seq ?_
  refine at_block ?_
  refine at_seq ?_
  refine at_region ?_
  refine at_q rfl rfl (by decide) (qt_move rfl rfl) ?_
  refine at_q rfl rfl (by decide) (qt_gtr rfl rfl rfl) ?_
  refine at_q rfl rfl (by decide) (qt_assign rfl rfl) ?_
  refine at_end ?_
  refine at_cond rfl (fun c1 => ?_) (fun c1 => ?_)
  · try simp only [decide_eq_true_eq, decide_eq_false_iff_not, beq_iff_eq, beq_eq_false_iff_ne, Bool.not_eq_true', Bool.not_eq_false', Bool.not_true, Bool.not_false, Int.not_lt, Int.not_le, ne_eq, Nat.not_lt, Nat.not_le] at c1
    refine at_seq ?_
    refine at_region ?_
    refine at_q rfl rfl (by decide) (qt_move rfl rfl) ?_
    refine at_q rfl rfl (by decide) (qt_move rfl rfl) ?_
    refine at_q rfl rfl (by decide) (qt_sub rfl rfl rfl (by omega) (by omega)) ?_
    refine at_q rfl rfl (by decide) (qt_move rfl rfl) ?_
    refine at_q rfl rfl (by decide) (qt_move rfl rfl) ?_
    refine at_q rfl rfl (by decide) (qt_move rfl rfl) ?_
    refine at_q rfl rfl (by decide) (qt_sub rfl rfl rfl (by omega) (by omega)) ?_
    refine at_q rfl rfl (by decide) (qt_move rfl rfl) ?_
    refine at_q rfl rfl (by decide) (qt_build rfl rfl (bld_spec_l13Span_0_1_2_3_4 rfl rfl rfl rfl rfl)) ?_
    refine at_op rfl ?_
    refine op_storeAll' (k := 0) rfl rfl rfl rfl (rfl) (by rfl) tyz_spec_l13Span.szx rfl rfl rfl ?_
    refine at_rsE (by simp only [List.nil_append, List.cons_append, List.set_cons_zero, List.set_cons_succ, Value.cells, List.toList_toArray]; rfl) ?_
    refine at_q rfl rfl (by decide) (qt_assign rfl rfl) ?_
    refine at_end ?_
    refine at_retc ?_
    refine pass_ret ?_
    refine then_ret ?_
    refine at_ret2 rfl (rvCelS (k := 0) rfl tys_spec_l13Span rfl rfl) (.tmp rfl) ?_
    intro w' hs
    exact ⟨tv (s := ⟨lo - f, d, true, lo + 2 - f, d, false⟩) (by rw [pixX, if_pos c1]) (by simp [pixIn]; omega), hs.fin⟩
  · try simp only [decide_eq_true_eq, decide_eq_false_iff_not, beq_iff_eq, beq_eq_false_iff_ne, Bool.not_eq_true', Bool.not_eq_false', Bool.not_true, Bool.not_false, Int.not_lt, Int.not_le, ne_eq, Nat.not_lt, Nat.not_le] at c1
    refine at_seq ?_
    refine at_region ?_
    refine at_q rfl rfl (by decide) (qt_move rfl rfl) ?_
    refine at_q rfl rfl (by decide) (qt_lss rfl rfl rfl) ?_
    refine at_q rfl rfl (by decide) (qt_assign rfl rfl) ?_
    refine at_end ?_
    refine at_cond rfl (fun c2 => ?_) (fun c2 => ?_)
    · try simp only [decide_eq_true_eq, decide_eq_false_iff_not, beq_iff_eq, beq_eq_false_iff_ne, Bool.not_eq_true', Bool.not_eq_false', Bool.not_true, Bool.not_false, Int.not_lt, Int.not_le, ne_eq, Nat.not_lt, Nat.not_le] at c2
      refine at_seq ?_
      refine at_region ?_
      refine at_q rfl rfl (by decide) (qt_move rfl rfl) ?_
      refine at_q rfl rfl (by decide) (qt_move rfl rfl) ?_
      refine at_q rfl rfl (by decide) (qt_sub rfl rfl rfl (by omega) (by omega)) ?_
      refine at_q rfl rfl (by decide) (qt_move rfl rfl) ?_
      refine at_q rfl rfl (by decide) (qt_neg rfl rfl (by omega) (by omega)) ?_
      refine at_q rfl rfl (by decide) (qt_move rfl rfl) ?_
      refine at_q rfl rfl (by decide) (qt_move rfl rfl) ?_
      refine at_q rfl rfl (by decide) (qt_sub rfl rfl rfl (by omega) (by omega)) ?_
      refine at_q rfl rfl (by decide) (qt_move rfl rfl) ?_
      refine at_q rfl rfl (by decide) (qt_neg rfl rfl (by omega) (by omega)) ?_
      refine at_q rfl rfl (by decide) (qt_build rfl rfl (bld_spec_l13Span_0_1_2_3_5 rfl rfl rfl rfl rfl)) ?_
      refine at_op rfl ?_
      refine op_storeAll' (k := 0) rfl rfl rfl rfl (rfl) (by rfl) tyz_spec_l13Span.szx rfl rfl rfl ?_
      refine at_rsE (by simp only [List.nil_append, List.cons_append, List.set_cons_zero, List.set_cons_succ, Value.cells, List.toList_toArray]; rfl) ?_
      refine at_q rfl rfl (by decide) (qt_assign rfl rfl) ?_
      refine at_end ?_
      refine at_retc ?_
      refine pass_ret ?_
      refine then_ret ?_
      refine at_ret2 rfl (rvCelS (k := 0) rfl tys_spec_l13Span rfl rfl) (.tmp rfl) ?_
      intro w' hs
      exact ⟨tv (s := ⟨f - (lo + 2), -d, false, f - lo, -d, true⟩) (by rw [pixX, if_neg (by omega), if_pos c2]; congr 1; omega) (by simp [pixIn]; omega), hs.fin⟩
    · try simp only [decide_eq_true_eq, decide_eq_false_iff_not, beq_iff_eq, beq_eq_false_iff_ne, Bool.not_eq_true', Bool.not_eq_false', Bool.not_true, Bool.not_false, Int.not_lt, Int.not_le, ne_eq, Nat.not_lt, Nat.not_le] at c2
      refine at_skip ?_
      refine norm_block ?_
      refine norm_then ?_
      refine at_seq ?_
      refine at_region ?_
      refine at_q rfl rfl (by decide) (qt_build rfl rfl (bld_spec_l13Span_0_1_2_3_4_5 rfl rfl rfl rfl rfl rfl)) ?_
      refine at_q rfl rfl (by decide) (qt_move rfl rfl) ?_
      refine at_q rfl rfl (by decide) (qt_move rfl rfl) ?_
      refine at_q rfl rfl (by decide) (qt_leq rfl rfl rfl) ?_
      refine at_q rfl rfl (by decide) (qt_move rfl rfl) ?_
      refine at_bsplit 40 rfl (fun g1 => ?_) (fun g1 => ?_)
      · try simp only [decide_eq_true_eq, decide_eq_false_iff_not, beq_iff_eq, beq_eq_false_iff_ne, Bool.not_eq_true', Bool.not_eq_false', Bool.not_true, Bool.not_false, Int.not_lt, Int.not_le, ne_eq, Nat.not_lt, Nat.not_le] at g1
        refine at_on rfl rfl rfl rfl ?_
        refine op_q rfl (by decide) (qt_move rfl rfl) ?_
        refine at_on rfl rfl rfl rfl ?_
        refine op_q rfl (by decide) (qt_move rfl rfl) ?_
        refine at_on rfl rfl rfl rfl ?_
        refine op_q rfl (by decide) (qt_lss rfl rfl rfl) ?_
        refine at_q rfl rfl (by decide) (qt_pickT rfl rfl rfl) ?_
        refine at_op rfl ?_
        refine op_storeAll' (k := 0) rfl rfl rfl rfl (rfl) (by rfl) tyz_spec_l13Span.szx rfl rfl rfl ?_
        refine at_rsE (by simp only [List.nil_append, List.cons_append, List.set_cons_zero, List.set_cons_succ, Value.cells, List.toList_toArray]; rfl) ?_
        refine at_q rfl rfl (by decide) (qt_assign rfl rfl) ?_
        refine at_end ?_
        refine at_retc ?_
        refine at_ret2 rfl (rvCelS (k := 0) rfl tys_spec_l13Span rfl rfl) (.tmp rfl) ?_
        intro w' hs
        exact ⟨tv (s := sp0) (by rw [pixX, if_neg (by omega), if_neg (by omega)]) (by simp [pixIn, show d = 0 by omega, g1]), hs.fin⟩
      · try simp only [decide_eq_true_eq, decide_eq_false_iff_not, beq_iff_eq, beq_eq_false_iff_ne, Bool.not_eq_true', Bool.not_eq_false', Bool.not_true, Bool.not_false, Int.not_lt, Int.not_le, ne_eq, Nat.not_lt, Nat.not_le] at g1
        refine at_off rfl rfl rfl rfl (by decide) rfl (by decide) ?_
        refine at_off rfl rfl rfl rfl (by decide) rfl (by decide) ?_
        refine at_off rfl rfl rfl rfl (by decide) rfl (by decide) ?_
        refine at_q rfl rfl (by decide) (qt_pickF rfl rfl rfl) ?_
        refine at_op rfl ?_
        refine op_storeAll' (k := 0) rfl rfl rfl rfl (rfl) (by rfl) tyz_spec_l13Span.szx rfl rfl rfl ?_
        refine at_rsE (by simp only [List.nil_append, List.cons_append, List.set_cons_zero, List.set_cons_succ, Value.cells, List.toList_toArray]; rfl) ?_
        refine at_q rfl rfl (by decide) (qt_assign rfl rfl) ?_
        refine at_end ?_
        refine at_retc ?_
        refine at_ret2 rfl (rvCelS (k := 0) rfl tys_spec_l13Span rfl rfl) (.tmp rfl) ?_
        intro w' hs
        exact ⟨tv (s := sp0) (by rw [pixX, if_neg (by omega), if_neg (by omega)]) (by simp [pixIn, show d = 0 by omega]; omega), hs.fin⟩
theorem bd_mul {a b c d : Int} (h : bd1 a b) (k : bd1 c d) : (-4398046511104 ≤ a * d ∧ a * d ≤ 4398046511104) ∧ (-4398046511104 ≤ c * b ∧ c * b ≤ 4398046511104) := by
  obtain ⟨⟨a1, a2⟩, a3, a4⟩ := h
  obtain ⟨⟨b1, b2⟩, b3, b4⟩ := k
  exact ⟨mul_bd a1 a2 b3 b4, mul_bd b1 b2 a3 a4⟩
theorem l13Meet_any (s x : Sp) (w : World) (hs : bdP s) (hx : bdP x) :
    Calls Try.prog 77 #[spV s, spV x] w fun e w' => e = .returned (spV (spMeet s x)) ∧ Over w w' := by
  have hs1 := meetLow_bd hs hx
  obtain ⟨m1, m2⟩ := bd_mul hs.low hx.low
  obtain ⟨m3, m4⟩ := bd_mul hs1.high hx.high
  refine walk_from (m := 70) (Try.func77) rfl rfl (Nat.le_of_ble_eq_true rfl) ?_
  refine at_seq ?_
  refine at_region ?_
  refine at_op rfl ?_
  refine op_box rfl rfl (rfl) rfl (by decide) (fun b1 => ?_)
  refine at_rsE (by simp only [List.nil_append, List.cons_append, List.set_cons_zero, List.set_cons_succ, Value.cells, List.toList_toArray]; rfl) ?_
  refine at_op rfl ?_
  refine op_box rfl rfl (rfl) rfl (by decide) (fun b2 => ?_)
  refine at_rsE (by simp only [List.nil_append, List.cons_append, List.set_cons_zero, List.set_cons_succ, Value.cells, List.toList_toArray]; rfl) ?_
  refine at_op rfl ?_
  refine op_alloc rfl tyz_spec_l13Span rfl (by decide) (fun b3 => ?_)
  refine at_rsE (by simp only [List.nil_append, List.cons_append, List.set_cons_zero, List.set_cons_succ, Value.cells, List.toList_toArray]; rfl) ?_
  refine at_end ?_
  refine at_seq ?_
  refine at_region ?_
  refine at_q rfl rfl (by decide) (qt_fieldAddr rfl rfl tyf_spec_l13Span_0) ?_
  refine at_q rfl rfl (by decide) (qt_load1 rfl rfl ty1_int64 (rd1 (k := 0) rfl rfl)) ?_
  refine at_q rfl rfl (by decide) (qt_fieldAddr rfl rfl tyf_spec_l13Span_1) ?_
  refine at_q rfl rfl (by decide) (qt_load1 rfl rfl ty1_int64 (rd1 (k := 1) rfl rfl)) ?_
  refine at_q rfl rfl (by decide) (qt_mul rfl rfl rfl (by omega) (by omega)) ?_
  refine at_q rfl rfl (by decide) (qt_fieldAddr rfl rfl tyf_spec_l13Span_0) ?_
  refine at_q rfl rfl (by decide) (qt_load1 rfl rfl ty1_int64 (rd1 (k := 1) rfl rfl)) ?_
  refine at_q rfl rfl (by decide) (qt_fieldAddr rfl rfl tyf_spec_l13Span_1) ?_
  refine at_q rfl rfl (by decide) (qt_load1 rfl rfl ty1_int64 (rd1 (k := 0) rfl rfl)) ?_
  refine at_q rfl rfl (by decide) (qt_mul rfl rfl rfl (by omega) (by omega)) ?_
  refine at_q rfl rfl (by decide) (qt_sub rfl rfl rfl (by omega) (by omega)) ?_
  refine at_q rfl rfl (by decide) (qt_assign rfl rfl) ?_
  refine at_end ?_
  refine at_cut [] (C := [(2, _), (3, _), (4, _)]) ([.cel b1 88 (spC (meetLow s x)), .cel b2 88 (spC x), .cel b3 88 [.int .i64 0, .int .i64 0, .int .i64 0, .int .i64 0, .bool false, .bool false]]) ⟨rfl, rfl, rfl, trivial⟩ (fun L hC_cutif_t28 => ?_) ?_
  · refine at_cutE [(28, .bool (upLow s x))] (C := [(2, _), (3, _), (4, _)])  ⟨rfl, rfl, rfl, trivial⟩ (fun L hC_cut_2 => ?_) ?_
    · refine at_region ?_
      refine at_q rfl rfl (by decide) (qt_move rfl rfl) ?_
      refine at_q rfl rfl (by decide) (qt_lss rfl rfl rfl) ?_
      refine at_q rfl rfl (by decide) (qt_move rfl rfl) ?_
      refine at_bsplit 20 rfl (fun g1 => ?_) (fun g1 => ?_)
      · try simp only [decide_eq_true_eq, decide_eq_false_iff_not, beq_iff_eq, beq_eq_false_iff_ne, Bool.not_eq_true', Bool.not_eq_false', Bool.not_true, Bool.not_false, Int.not_lt, Int.not_le, ne_eq, Nat.not_lt, Nat.not_le] at g1
        refine at_off rfl rfl rfl rfl (by decide) rfl (by decide) ?_
        refine at_off rfl rfl rfl rfl (by decide) rfl (by decide) ?_
        refine at_off rfl rfl rfl rfl (by decide) rfl (by decide) ?_
        refine at_offu rfl rfl rfl rfl rfl (by decide) ?_
        refine at_offu rfl rfl rfl rfl rfl (by decide) ?_
        refine at_offu rfl rfl rfl rfl rfl (by decide) ?_
        refine at_off rfl rfl rfl rfl (by decide) rfl (by decide) ?_
        refine at_q rfl rfl (by decide) (qt_pickT rfl rfl rfl) ?_
        refine at_end ?_
        exact at_meet hC_cut_2 ⟨vb (by symm; simp [upLow]; omega), rfl, rfl, rfl, trivial⟩ (fun _ h => h.upto ⟨rfl, rfl, rfl, trivial⟩)
      · try simp only [decide_eq_true_eq, decide_eq_false_iff_not, beq_iff_eq, beq_eq_false_iff_ne, Bool.not_eq_true', Bool.not_eq_false', Bool.not_true, Bool.not_false, Int.not_lt, Int.not_le, ne_eq, Nat.not_lt, Nat.not_le] at g1
        refine at_on rfl rfl rfl rfl ?_
        refine op_q rfl (by decide) (qt_move rfl rfl) ?_
        refine at_on rfl rfl rfl rfl ?_
        refine op_q rfl (by decide) (qt_eql rfl rfl rfl) ?_
        refine at_on rfl rfl rfl rfl ?_
        refine op_q rfl (by decide) (qt_move rfl rfl) ?_
        refine at_bsplit 23 rfl (fun g2 => ?_) (fun g2 => ?_)
        · try simp only [decide_eq_true_eq, decide_eq_false_iff_not, beq_iff_eq, beq_eq_false_iff_ne, Bool.not_eq_true', Bool.not_eq_false', Bool.not_true, Bool.not_false, Int.not_lt, Int.not_le, ne_eq, Nat.not_lt, Nat.not_le] at g2
          refine at_on rfl rfl rfl rfl ?_
          refine op_q rfl (by decide) (qt_fieldAddr rfl rfl tyf_spec_l13Span_4) ?_
          refine at_on rfl rfl rfl rfl ?_
          refine op_q rfl (by decide) (qt_load1 rfl rfl ty1_bool (rd1 (k := 1) rfl rfl)) ?_
          refine at_on rfl rfl rfl rfl ?_
          refine op_q rfl (by decide) (qt_not rfl rfl) ?_
          refine at_on rfl rfl rfl rfl ?_
          refine op_q rfl (by decide) (qt_pickT rfl rfl rfl) ?_
          refine at_q rfl rfl (by decide) (qt_pickF rfl rfl rfl) ?_
          refine at_end ?_
          exact at_meet hC_cut_2 ⟨vb (by simp [upLow, g2]), rfl, rfl, rfl, trivial⟩ (fun _ h => h.upto ⟨rfl, rfl, rfl, trivial⟩)
        · try simp only [decide_eq_true_eq, decide_eq_false_iff_not, beq_iff_eq, beq_eq_false_iff_ne, Bool.not_eq_true', Bool.not_eq_false', Bool.not_true, Bool.not_false, Int.not_lt, Int.not_le, ne_eq, Nat.not_lt, Nat.not_le] at g2
          refine at_off rfl rfl rfl rfl (by decide) rfl (by decide) ?_
          refine at_off rfl rfl rfl rfl (by decide) rfl (by decide) ?_
          refine at_off rfl rfl rfl rfl (by decide) rfl (by decide) ?_
          refine at_on rfl rfl rfl rfl ?_
          refine op_q rfl (by decide) (qt_pickF rfl rfl rfl) ?_
          refine at_q rfl rfl (by decide) (qt_pickF rfl rfl rfl) ?_
          refine at_end ?_
          exact at_meet hC_cut_2 ⟨vb (by symm; simp [upLow]; omega), rfl, rfl, rfl, trivial⟩ (fun _ h => h.upto ⟨rfl, rfl, rfl, trivial⟩)
    · refine at_envE (by simp only [List.nil_append, List.cons_append]; rfl) ?_
      refine at_cond rfl (fun c1 => ?_) (fun c1 => ?_)
      · try simp only [decide_eq_true_eq, decide_eq_false_iff_not, beq_iff_eq, beq_eq_false_iff_ne, Bool.not_eq_true', Bool.not_eq_false', Bool.not_true, Bool.not_false, Int.not_lt, Int.not_le, ne_eq, Nat.not_lt, Nat.not_le] at c1
        refine at_seq ?_
        refine at_region ?_
        refine at_q rfl rfl (by decide) (qt_fieldAddr rfl rfl tyf_spec_l13Span_0) ?_
        refine at_q rfl rfl (by decide) (qt_load1 rfl rfl ty1_int64 (rd1 (k := 1) rfl rfl)) ?_
        refine at_q rfl rfl (by decide) (qt_fieldAddr rfl rfl tyf_spec_l13Span_0) ?_
        refine at_op rfl ?_
        refine op_store_6_0_1 (k := 0) rfl rfl rfl rfl (rfl) (by rfl) tyz_int64.szx rfl ?_
        refine at_rsE (by simp only [List.nil_append, List.cons_append, List.set_cons_zero, List.set_cons_succ, Value.cells, List.toList_toArray]; rfl) ?_
        refine at_end ?_
        refine at_seq ?_
        refine at_region ?_
        refine at_q rfl rfl (by decide) (qt_fieldAddr rfl rfl tyf_spec_l13Span_1) ?_
        refine at_q rfl rfl (by decide) (qt_load1 rfl rfl ty1_int64 (rd1 (k := 1) rfl rfl)) ?_
        refine at_q rfl rfl (by decide) (qt_fieldAddr rfl rfl tyf_spec_l13Span_1) ?_
        refine at_op rfl ?_
        refine op_store_6_1_1 (k := 0) rfl rfl rfl rfl (rfl) (by rfl) tyz_int64.szx rfl ?_
        refine at_rsE (by simp only [List.nil_append, List.cons_append, List.set_cons_zero, List.set_cons_succ, Value.cells, List.toList_toArray]; rfl) ?_
        refine at_end ?_
        refine at_region ?_
        refine at_q rfl rfl (by decide) (qt_fieldAddr rfl rfl tyf_spec_l13Span_4) ?_
        refine at_q rfl rfl (by decide) (qt_load1 rfl rfl ty1_bool (rd1 (k := 1) rfl rfl)) ?_
        refine at_q rfl rfl (by decide) (qt_fieldAddr rfl rfl tyf_spec_l13Span_4) ?_
        refine at_op rfl ?_
        refine op_store_6_4_1 (k := 0) rfl rfl rfl rfl (rfl) (by rfl) tyz_bool.szx rfl ?_
        refine at_rsE (by simp only [List.nil_append, List.cons_append, List.set_cons_zero, List.set_cons_succ, Value.cells, List.toList_toArray]; rfl) ?_
        refine at_end ?_
        exact at_meet hC_cutif_t28 ⟨rfl, rfl, rfl, trivial⟩ (fun _ h => h.upto ⟨by rw [meetLow, if_pos c1] <;> rfl, rfl, rfl, trivial⟩)
      · try simp only [decide_eq_true_eq, decide_eq_false_iff_not, beq_iff_eq, beq_eq_false_iff_ne, Bool.not_eq_true', Bool.not_eq_false', Bool.not_true, Bool.not_false, Int.not_lt, Int.not_le, ne_eq, Nat.not_lt, Nat.not_le] at c1
        refine at_skip ?_
        refine norm_then ?_
        exact at_meet hC_cutif_t28 ⟨rfl, rfl, rfl, trivial⟩ (fun _ h => h.upto ⟨by rw [meetLow, c1] <;> rfl, rfl, rfl, trivial⟩)
  · refine at_envE (by simp only [List.nil_append, List.cons_append]; rfl) ?_
    refine at_seq ?_
    refine at_region ?_
    refine at_q rfl rfl (by decide) (qt_fieldAddr rfl rfl tyf_spec_l13Span_2) ?_
    refine at_q rfl rfl (by decide) (qt_load1 rfl rfl ty1_int64 (rd1 (k := 0) rfl rfl)) ?_
    refine at_q rfl rfl (by decide) (qt_fieldAddr rfl rfl tyf_spec_l13Span_3) ?_
    refine at_q rfl rfl (by decide) (qt_load1 rfl rfl ty1_int64 (rd1 (k := 1) rfl rfl)) ?_
    refine at_q rfl rfl (by decide) (qt_mul rfl rfl rfl (by omega) (by omega)) ?_
    refine at_q rfl rfl (by decide) (qt_fieldAddr rfl rfl tyf_spec_l13Span_2) ?_
    refine at_q rfl rfl (by decide) (qt_load1 rfl rfl ty1_int64 (rd1 (k := 1) rfl rfl)) ?_
    refine at_q rfl rfl (by decide) (qt_fieldAddr rfl rfl tyf_spec_l13Span_3) ?_
    refine at_q rfl rfl (by decide) (qt_load1 rfl rfl ty1_int64 (rd1 (k := 0) rfl rfl)) ?_
    refine at_q rfl rfl (by decide) (qt_mul rfl rfl rfl (by omega) (by omega)) ?_
    refine at_q rfl rfl (by decide) (qt_sub rfl rfl rfl (by omega) (by omega)) ?_
    refine at_q rfl rfl (by decide) (qt_assign rfl rfl) ?_
    refine at_end ?_
    refine at_cut [] (C := [(2, _), (4, _)]) ([.cel b1 88 (spC (spMeet s x)), .cel b2 88 (spC x), .cel b3 88 [.int .i64 0, .int .i64 0, .int .i64 0, .int .i64 0, .bool false, .bool false]]) ⟨rfl, rfl, trivial⟩ (fun L hC_cutif_t59 => ?_) ?_
    · refine at_cutE [(59, .bool (upHigh (meetLow s x) x))] (C := [(2, _), (3, _), (4, _)])  ⟨rfl, rfl, rfl, trivial⟩ (fun L hC_cut_7 => ?_) ?_
      · refine at_region ?_
        refine at_q rfl rfl (by decide) (qt_move rfl rfl) ?_
        refine at_q rfl rfl (by decide) (qt_gtr rfl rfl rfl) ?_
        refine at_q rfl rfl (by decide) (qt_move rfl rfl) ?_
        refine at_bsplit 51 rfl (fun g3 => ?_) (fun g3 => ?_)
        · try simp only [decide_eq_true_eq, decide_eq_false_iff_not, beq_iff_eq, beq_eq_false_iff_ne, Bool.not_eq_true', Bool.not_eq_false', Bool.not_true, Bool.not_false, Int.not_lt, Int.not_le, ne_eq, Nat.not_lt, Nat.not_le] at g3
          refine at_off rfl rfl rfl rfl (by decide) rfl (by decide) ?_
          refine at_off rfl rfl rfl rfl (by decide) rfl (by decide) ?_
          refine at_off rfl rfl rfl rfl (by decide) rfl (by decide) ?_
          refine at_offu rfl rfl rfl rfl rfl (by decide) ?_
          refine at_offu rfl rfl rfl rfl rfl (by decide) ?_
          refine at_offu rfl rfl rfl rfl rfl (by decide) ?_
          refine at_off rfl rfl rfl rfl (by decide) rfl (by decide) ?_
          refine at_q rfl rfl (by decide) (qt_pickT rfl rfl rfl) ?_
          refine at_end ?_
          exact at_meet hC_cut_7 ⟨vb (by symm; simp [upHigh]; omega), rfl, rfl, rfl, trivial⟩ (fun _ h => h.upto ⟨rfl, rfl, rfl, trivial⟩)
        · try simp only [decide_eq_true_eq, decide_eq_false_iff_not, beq_iff_eq, beq_eq_false_iff_ne, Bool.not_eq_true', Bool.not_eq_false', Bool.not_true, Bool.not_false, Int.not_lt, Int.not_le, ne_eq, Nat.not_lt, Nat.not_le] at g3
          refine at_on rfl rfl rfl rfl ?_
          refine op_q rfl (by decide) (qt_move rfl rfl) ?_
          refine at_on rfl rfl rfl rfl ?_
          refine op_q rfl (by decide) (qt_eql rfl rfl rfl) ?_
          refine at_on rfl rfl rfl rfl ?_
          refine op_q rfl (by decide) (qt_move rfl rfl) ?_
          refine at_bsplit 54 rfl (fun g4 => ?_) (fun g4 => ?_)
          · try simp only [decide_eq_true_eq, decide_eq_false_iff_not, beq_iff_eq, beq_eq_false_iff_ne, Bool.not_eq_true', Bool.not_eq_false', Bool.not_true, Bool.not_false, Int.not_lt, Int.not_le, ne_eq, Nat.not_lt, Nat.not_le] at g4
            refine at_on rfl rfl rfl rfl ?_
            refine op_q rfl (by decide) (qt_fieldAddr rfl rfl tyf_spec_l13Span_5) ?_
            refine at_on rfl rfl rfl rfl ?_
            refine op_q rfl (by decide) (qt_load1 rfl rfl ty1_bool (rd1 (k := 1) rfl rfl)) ?_
            refine at_on rfl rfl rfl rfl ?_
            refine op_q rfl (by decide) (qt_not rfl rfl) ?_
            refine at_on rfl rfl rfl rfl ?_
            refine op_q rfl (by decide) (qt_pickT rfl rfl rfl) ?_
            refine at_q rfl rfl (by decide) (qt_pickF rfl rfl rfl) ?_
            refine at_end ?_
            exact at_meet hC_cut_7 ⟨vb (by simp [upHigh, g4]), rfl, rfl, rfl, trivial⟩ (fun _ h => h.upto ⟨rfl, rfl, rfl, trivial⟩)
          · try simp only [decide_eq_true_eq, decide_eq_false_iff_not, beq_iff_eq, beq_eq_false_iff_ne, Bool.not_eq_true', Bool.not_eq_false', Bool.not_true, Bool.not_false, Int.not_lt, Int.not_le, ne_eq, Nat.not_lt, Nat.not_le] at g4
            refine at_off rfl rfl rfl rfl (by decide) rfl (by decide) ?_
            refine at_off rfl rfl rfl rfl (by decide) rfl (by decide) ?_
            refine at_off rfl rfl rfl rfl (by decide) rfl (by decide) ?_
            refine at_on rfl rfl rfl rfl ?_
            refine op_q rfl (by decide) (qt_pickF rfl rfl rfl) ?_
            refine at_q rfl rfl (by decide) (qt_pickF rfl rfl rfl) ?_
            refine at_end ?_
            exact at_meet hC_cut_7 ⟨vb (by symm; simp [upHigh]; omega), rfl, rfl, rfl, trivial⟩ (fun _ h => h.upto ⟨rfl, rfl, rfl, trivial⟩)
      · refine at_envE (by simp only [List.nil_append, List.cons_append]; rfl) ?_
        refine at_cond rfl (fun c2 => ?_) (fun c2 => ?_)
        · try simp only [decide_eq_true_eq, decide_eq_false_iff_not, beq_iff_eq, beq_eq_false_iff_ne, Bool.not_eq_true', Bool.not_eq_false', Bool.not_true, Bool.not_false, Int.not_lt, Int.not_le, ne_eq, Nat.not_lt, Nat.not_le] at c2
          refine at_seq ?_
          refine at_region ?_
          refine at_q rfl rfl (by decide) (qt_fieldAddr rfl rfl tyf_spec_l13Span_2) ?_
          refine at_q rfl rfl (by decide) (qt_load1 rfl rfl ty1_int64 (rd1 (k := 1) rfl rfl)) ?_
          refine at_q rfl rfl (by decide) (qt_fieldAddr rfl rfl tyf_spec_l13Span_2) ?_
          refine at_op rfl ?_
          refine op_store_6_2_1 (k := 0) rfl rfl rfl rfl (rfl) (by rfl) tyz_int64.szx rfl ?_
          refine at_rsE (by simp only [List.nil_append, List.cons_append, List.set_cons_zero, List.set_cons_succ, Value.cells, List.toList_toArray]; rfl) ?_
          refine at_end ?_
          refine at_seq ?_
          refine at_region ?_
          refine at_q rfl rfl (by decide) (qt_fieldAddr rfl rfl tyf_spec_l13Span_3) ?_
          refine at_q rfl rfl (by decide) (qt_load1 rfl rfl ty1_int64 (rd1 (k := 1) rfl rfl)) ?_
          refine at_q rfl rfl (by decide) (qt_fieldAddr rfl rfl tyf_spec_l13Span_3) ?_
          refine at_op rfl ?_
          refine op_store_6_3_1 (k := 0) rfl rfl rfl rfl (rfl) (by rfl) tyz_int64.szx rfl ?_
          refine at_rsE (by simp only [List.nil_append, List.cons_append, List.set_cons_zero, List.set_cons_succ, Value.cells, List.toList_toArray]; rfl) ?_
          refine at_end ?_
          refine at_region ?_
          refine at_q rfl rfl (by decide) (qt_fieldAddr rfl rfl tyf_spec_l13Span_5) ?_
          refine at_q rfl rfl (by decide) (qt_load1 rfl rfl ty1_bool (rd1 (k := 1) rfl rfl)) ?_
          refine at_q rfl rfl (by decide) (qt_fieldAddr rfl rfl tyf_spec_l13Span_5) ?_
          refine at_op rfl ?_
          refine op_store_6_5_1 (k := 0) rfl rfl rfl rfl (rfl) (by rfl) tyz_bool.szx rfl ?_
          refine at_rsE (by simp only [List.nil_append, List.cons_append, List.set_cons_zero, List.set_cons_succ, Value.cells, List.toList_toArray]; rfl) ?_
          refine at_end ?_
          exact at_meet hC_cutif_t59 ⟨rfl, rfl, trivial⟩ (fun _ h => h.upto ⟨by rw [spMeet, meetHigh, if_pos c2] <;> rfl, rfl, rfl, trivial⟩)
        · try simp only [decide_eq_true_eq, decide_eq_false_iff_not, beq_iff_eq, beq_eq_false_iff_ne, Bool.not_eq_true', Bool.not_eq_false', Bool.not_true, Bool.not_false, Int.not_lt, Int.not_le, ne_eq, Nat.not_lt, Nat.not_le] at c2
          refine at_skip ?_
          refine norm_then ?_
          exact at_meet hC_cutif_t59 ⟨rfl, rfl, trivial⟩ (fun _ h => h.upto ⟨by rw [spMeet, meetHigh, c2] <;> rfl, rfl, rfl, trivial⟩)
    · refine at_envE (by simp only [List.nil_append, List.cons_append]; rfl) ?_
      refine at_seq ?_
      refine at_region ?_
      refine at_q rfl rfl (by decide) (qt_loadS rfl rfl tys_spec_l13Span rfl (rdAll (k := 0) rfl)) ?_
      refine at_op rfl ?_
      refine op_storeAll' (k := 2) rfl rfl rfl rfl (rfl) (by rfl) tyz_spec_l13Span.szx rfl rfl rfl ?_
      refine at_rsE (by simp only [List.nil_append, List.cons_append, List.set_cons_zero, List.set_cons_succ, Value.cells, List.toList_toArray]; rfl) ?_
      refine at_end ?_
      refine at_retc ?_
      refine at_ret1 rfl (rvCelS (k := 2) rfl tys_spec_l13Span rfl rfl) ?_
      intro w' hs
      exact ⟨rfl, hs.fin⟩

theorem l13Inside_any (ax ay bx b_y px_ py_ : Int) (w : World) (ha : okB ax ay = true) (hb : okB bx b_y = true) (hp : okB px_ py_ = true) :
    Calls Try.prog 48 #[ptV ax ay, ptV bx b_y, ptV px_ py_] w fun e w' => e = .returned (.tuple #[spV (if (pixIn (2 * ax) (2 * (bx - ax)) (2 * px_ - 1) && pixIn (2 * ay) (2 * (b_y - ay)) (2 * py_ - 1)) = true then spMeet (spMeet sp0 (pixX (2 * ax) (2 * (bx - ax)) (2 * px_ - 1))) (pixX (2 * ay) (2 * (b_y - ay)) (2 * py_ - 1)) else sp0),
      .bool (insB (2 * ax) (2 * (bx - ax)) (2 * px_ - 1) (2 * ay) (2 * (b_y - ay)) (2 * py_ - 1))]) ∧ Over w w' := by
  simp [okB, inB] at ha hb hp
  have hx := pixX_bd (2 * ax) (2 * (bx - ax)) (2 * px_ - 1) (by omega) (by omega) (by omega) (by omega) (by omega) (by omega)
  have hy := pixX_bd (2 * ay) (2 * (b_y - ay)) (2 * py_ - 1) (by omega) (by omega) (by omega) (by omega) (by omega) (by omega)
  have h1 := meetHigh_bd (meetLow_bd sp0_bd hx) hx
  obtain ⟨sx, ex⟩ : ∃ s, pixX (2 * ax) (2 * (bx - ax)) (2 * px_ - 1) = s := ⟨_, rfl⟩
  obtain ⟨sy, ey⟩ : ∃ s, pixX (2 * ay) (2 * (b_y - ay)) (2 * py_ - 1) = s := ⟨_, rfl⟩
  obtain ⟨ix, jx⟩ : ∃ s, pixIn (2 * ax) (2 * (bx - ax)) (2 * px_ - 1) = s := ⟨_, rfl⟩
  obtain ⟨iy, jy⟩ : ∃ s, pixIn (2 * ay) (2 * (b_y - ay)) (2 * py_ - 1) = s := ⟨_, rfl⟩
  unfold insB
  rw [ex] at hx h1
  rw [ey] at hy
  rw [ex, ey, jx, jy]
  change bdP (spMeet sp0 sx) at h1
  obtain ⟨s2, e2⟩ : ∃ s, spMeet (spMeet sp0 sx) sy = s := ⟨_, rfl⟩
  rw [e2]
  have h2 : bdP (spMeet (spMeet sp0 sx) sy) := meetHigh_bd (meetLow_bd h1 hy) hy
  rw [e2] at h2
  obtain ⟨m1, m2⟩ := bd_mul h2.low h2.high
  have hA : ∀ w, Calls Try.prog 76 #[.int .i64 (2 * ax), .int .i64 (2 * (bx - ax)), .int .i64 (2 * px_ - 1), .int .i64 (2 * px_ + 1)] w fun e w' => e = .returned (.tuple #[spV sx, .bool ix]) ∧ Over w w' := fun w => ex ▸ jx ▸ l13Clip_any _ _ _ _ w (by omega) (by omega) (by omega) (by omega) (by omega) (by omega) (by omega)
  have hB : ∀ w, Calls Try.prog 76 #[.int .i64 (2 * ay), .int .i64 (2 * (b_y - ay)), .int .i64 (2 * py_ - 1), .int .i64 (2 * py_ + 1)] w fun e w' => e = .returned (.tuple #[spV sy, .bool iy]) ∧ Over w w' := fun w => ey ▸ jy ▸ l13Clip_any _ _ _ _ w (by omega) (by omega) (by omega) (by omega) (by omega) (by omega) (by omega)
  have hC : ∀ w, Calls Try.prog 77 #[spV (spMeet sp0 sx), spV sy] w fun e w' => e = .returned (spV s2) ∧ Over w w' := fun w => e2 ▸ l13Meet_any _ _ w h1 hy
  refine walk_from (m := 95) (Try.func48) rfl rfl (Nat.le_of_ble_eq_true rfl) ?_
  refine at_seq ?_
  refine at_region ?_
  refine at_op rfl ?_
  refine op_box rfl rfl (rfl) rfl (by decide) (fun b1 => ?_)
  refine at_rsE (by simp only [List.nil_append, List.cons_append, List.set_cons_zero, List.set_cons_succ, Value.cells, List.toList_toArray]; rfl) ?_
  refine at_op rfl ?_
  refine op_box rfl rfl (rfl) rfl (by decide) (fun b2 => ?_)
  refine at_rsE (by simp only [List.nil_append, List.cons_append, List.set_cons_zero, List.set_cons_succ, Value.cells, List.toList_toArray]; rfl) ?_
  refine at_op rfl ?_
  refine op_box rfl rfl (rfl) rfl (by decide) (fun b3 => ?_)
  refine at_rsE (by simp only [List.nil_append, List.cons_append, List.set_cons_zero, List.set_cons_succ, Value.cells, List.toList_toArray]; rfl) ?_
  refine at_op rfl ?_
  refine op_alloc rfl tyz_spec_l13Span rfl (by decide) (fun b4 => ?_)
  refine at_rsE (by simp only [List.nil_append, List.cons_append, List.set_cons_zero, List.set_cons_succ, Value.cells, List.toList_toArray]; rfl) ?_
  refine at_q rfl rfl (by decide) (qt_assign rfl rfl) ?_
  refine at_end ?_
  refine at_seq ?_
  refine at_region ?_
  refine at_q rfl rfl (by decide) (qt_build rfl rfl (bld_spec_l13Span_0_1_2_3_4_5 rfl rfl rfl rfl rfl rfl)) ?_
  refine at_op rfl ?_
  refine op_alloc rfl tyz_spec_l13Span rfl (by decide) (fun b5 => ?_)
  refine at_rsE (by simp only [List.nil_append, List.cons_append, List.set_cons_zero, List.set_cons_succ, Value.cells, List.toList_toArray]; rfl) ?_
  refine at_op rfl ?_
  refine op_storeAll' (k := 4) rfl rfl rfl rfl (rfl) (by rfl) tyz_spec_l13Span.szx rfl rfl rfl ?_
  refine at_rsE (by simp only [List.nil_append, List.cons_append, List.set_cons_zero, List.set_cons_succ, Value.cells, List.toList_toArray]; rfl) ?_
  refine at_end ?_
  refine at_seq ?_
  refine at_region ?_
  refine at_q rfl rfl (by decide) (qt_fieldAddr rfl rfl tyf_impl_Pt_0) ?_
  refine at_q rfl rfl (by decide) (qt_load1 rfl rfl ty1_int64 (rd1 (k := 0) rfl rfl)) ?_
  refine at_q rfl rfl (by decide) (qt_mul rfl rfl rfl (by omega) (by omega)) ?_
  refine at_q rfl rfl (by decide) (qt_fieldAddr rfl rfl tyf_impl_Pt_0) ?_
  refine at_q rfl rfl (by decide) (qt_load1 rfl rfl ty1_int64 (rd1 (k := 1) rfl rfl)) ?_
  refine at_q rfl rfl (by decide) (qt_fieldAddr rfl rfl tyf_impl_Pt_0) ?_
  refine at_q rfl rfl (by decide) (qt_load1 rfl rfl ty1_int64 (rd1 (k := 0) rfl rfl)) ?_
  refine at_q rfl rfl (by decide) (qt_sub rfl rfl rfl (by omega) (by omega)) ?_
  refine at_q rfl rfl (by decide) (qt_mul rfl rfl rfl (by omega) (by omega)) ?_
  refine at_q rfl rfl (by decide) (qt_fieldAddr rfl rfl tyf_impl_Pt_0) ?_
  refine at_q rfl rfl (by decide) (qt_load1 rfl rfl ty1_int64 (rd1 (k := 2) rfl rfl)) ?_
  refine at_q rfl rfl (by decide) (qt_mul rfl rfl rfl (by omega) (by omega)) ?_
  refine at_q rfl rfl (by decide) (qt_sub rfl rfl rfl (by omega) (by omega)) ?_
  refine at_q rfl rfl (by decide) (qt_fieldAddr rfl rfl tyf_impl_Pt_0) ?_
  refine at_q rfl rfl (by decide) (qt_load1 rfl rfl ty1_int64 (rd1 (k := 2) rfl rfl)) ?_
  refine at_q rfl rfl (by decide) (qt_mul rfl rfl rfl (by omega) (by omega)) ?_
  refine at_q rfl rfl (by decide) (qt_add rfl rfl rfl (by omega) (by omega)) ?_
  refine at_q rfl rfl (by decide) (qt_call ok_spec_l13Clip rfl rfl (fun w h => hA w)) ?_
  refine at_q rfl rfl (by decide) (qt_move rfl rfl) ?_
  refine at_q rfl rfl (by decide) (qt_extract rfl rfl rfl) ?_
  refine at_q rfl rfl (by decide) (qt_extract rfl rfl rfl) ?_
  refine at_op rfl ?_
  refine op_alloc rfl tyz_spec_l13Span rfl (by decide) (fun b6 => ?_)
  refine at_rsE (by simp only [List.nil_append, List.cons_append, List.set_cons_zero, List.set_cons_succ, Value.cells, List.toList_toArray]; rfl) ?_
  refine at_op rfl ?_
  refine op_storeAll' (k := 5) rfl rfl rfl rfl (rfl) (by rfl) tyz_spec_l13Span.szx rfl rfl rfl ?_
  refine at_rsE (by simp only [List.nil_append, List.cons_append, List.set_cons_zero, List.set_cons_succ, Value.cells, List.toList_toArray]; rfl) ?_
  refine at_q rfl rfl (by decide) (qt_assign rfl rfl) ?_
  refine at_end ?_
  refine at_seq ?_
  refine at_region ?_
  refine at_q rfl rfl (by decide) (qt_fieldAddr rfl rfl tyf_impl_Pt_1) ?_
  refine at_q rfl rfl (by decide) (qt_load1 rfl rfl ty1_int64 (rd1 (k := 0) rfl rfl)) ?_
  refine at_q rfl rfl (by decide) (qt_mul rfl rfl rfl (by omega) (by omega)) ?_
  refine at_q rfl rfl (by decide) (qt_fieldAddr rfl rfl tyf_impl_Pt_1) ?_
  refine at_q rfl rfl (by decide) (qt_load1 rfl rfl ty1_int64 (rd1 (k := 1) rfl rfl)) ?_
  refine at_q rfl rfl (by decide) (qt_fieldAddr rfl rfl tyf_impl_Pt_1) ?_
  refine at_q rfl rfl (by decide) (qt_load1 rfl rfl ty1_int64 (rd1 (k := 0) rfl rfl)) ?_
  refine at_q rfl rfl (by decide) (qt_sub rfl rfl rfl (by omega) (by omega)) ?_
  refine at_q rfl rfl (by decide) (qt_mul rfl rfl rfl (by omega) (by omega)) ?_
  refine at_q rfl rfl (by decide) (qt_fieldAddr rfl rfl tyf_impl_Pt_1) ?_
  refine at_q rfl rfl (by decide) (qt_load1 rfl rfl ty1_int64 (rd1 (k := 2) rfl rfl)) ?_
  refine at_q rfl rfl (by decide) (qt_mul rfl rfl rfl (by omega) (by omega)) ?_
  refine at_q rfl rfl (by decide) (qt_sub rfl rfl rfl (by omega) (by omega)) ?_
  refine at_q rfl rfl (by decide) (qt_fieldAddr rfl rfl tyf_impl_Pt_1) ?_
  refine at_q rfl rfl (by decide) (qt_load1 rfl rfl ty1_int64 (rd1 (k := 2) rfl rfl)) ?_
  refine at_q rfl rfl (by decide) (qt_mul rfl rfl rfl (by omega) (by omega)) ?_
  refine at_q rfl rfl (by decide) (qt_add rfl rfl rfl (by omega) (by omega)) ?_
  refine at_q rfl rfl (by decide) (qt_call ok_spec_l13Clip rfl rfl (fun w h => hB w)) ?_
  refine at_q rfl rfl (by decide) (qt_move rfl rfl) ?_
  refine at_q rfl rfl (by decide) (qt_extract rfl rfl rfl) ?_
  refine at_q rfl rfl (by decide) (qt_extract rfl rfl rfl) ?_
  refine at_op rfl ?_
  refine op_alloc rfl tyz_spec_l13Span rfl (by decide) (fun b7 => ?_)
  refine at_rsE (by simp only [List.nil_append, List.cons_append, List.set_cons_zero, List.set_cons_succ, Value.cells, List.toList_toArray]; rfl) ?_
  refine at_op rfl ?_
  refine op_storeAll' (k := 6) rfl rfl rfl rfl (rfl) (by rfl) tyz_spec_l13Span.szx rfl rfl rfl ?_
  refine at_rsE (by simp only [List.nil_append, List.cons_append, List.set_cons_zero, List.set_cons_succ, Value.cells, List.toList_toArray]; rfl) ?_
  refine at_q rfl rfl (by decide) (qt_assign rfl rfl) ?_
  refine at_end ?_
  refine at_seq ?_
  refine at_cutE [(62, .bool (!(ix && iy)))] (C := [(6, _), (7, _), (8, _), (9, _), (11, _)])  ⟨rfl, rfl, rfl, rfl, rfl, trivial⟩ (fun L hC_cut_4 => ?_) ?_
  · refine at_region ?_
    refine at_q rfl rfl (by decide) (qt_move rfl rfl) ?_
    refine at_q rfl rfl (by decide) (qt_not rfl rfl) ?_
    refine at_q rfl rfl (by decide) (qt_move rfl rfl) ?_
    refine at_bsplit 59 rfl (fun g1 => ?_) (fun g1 => ?_)
    · try simp only [decide_eq_true_eq, decide_eq_false_iff_not, beq_iff_eq, beq_eq_false_iff_ne, Bool.not_eq_true', Bool.not_eq_false', Bool.not_true, Bool.not_false, Int.not_lt, Int.not_le, ne_eq, Nat.not_lt, Nat.not_le] at g1
      refine at_off rfl rfl rfl rfl (by decide) rfl (by decide) ?_
      refine at_off rfl rfl rfl rfl (by decide) rfl (by decide) ?_
      refine at_q rfl rfl (by decide) (qt_pickT rfl rfl rfl) ?_
      refine at_end ?_
      exact at_meet hC_cut_4 ⟨vb (by simp [g1]), rfl, rfl, rfl, rfl, rfl, trivial⟩ (fun _ h => h.upto ⟨rfl, rfl, rfl, rfl, rfl, rfl, rfl, trivial⟩)
    · try simp only [decide_eq_true_eq, decide_eq_false_iff_not, beq_iff_eq, beq_eq_false_iff_ne, Bool.not_eq_true', Bool.not_eq_false', Bool.not_true, Bool.not_false, Int.not_lt, Int.not_le, ne_eq, Nat.not_lt, Nat.not_le] at g1
      refine at_on rfl rfl rfl rfl ?_
      refine op_q rfl (by decide) (qt_move rfl rfl) ?_
      refine at_on rfl rfl rfl rfl ?_
      refine op_q rfl (by decide) (qt_not rfl rfl) ?_
      refine at_q rfl rfl (by decide) (qt_pickF rfl rfl rfl) ?_
      refine at_end ?_
      exact at_meet hC_cut_4 ⟨vb (by simp [g1]), rfl, rfl, rfl, rfl, rfl, trivial⟩ (fun _ h => h.upto ⟨rfl, rfl, rfl, rfl, rfl, rfl, rfl, trivial⟩)
  · refine at_envE (by simp only [List.nil_append, List.cons_append]; rfl) ?_
    refine at_cond rfl (fun c1 => ?_) (fun c1 => ?_)
    · try simp only [decide_eq_true_eq, decide_eq_false_iff_not, beq_iff_eq, beq_eq_false_iff_ne, Bool.not_eq_true', Bool.not_eq_false', Bool.not_true, Bool.not_false, Int.not_lt, Int.not_le, ne_eq, Nat.not_lt, Nat.not_le] at c1
      refine at_seq ?_
      refine at_region ?_
      refine at_q rfl rfl (by decide) (qt_loadS rfl rfl tys_spec_l13Span rfl (rdAll (k := 4) rfl)) ?_
      refine at_op rfl ?_
      refine op_storeAll' (k := 3) rfl rfl rfl rfl (rfl) (by rfl) tyz_spec_l13Span.szx rfl rfl rfl ?_
      refine at_rsE (by simp only [List.nil_append, List.cons_append, List.set_cons_zero, List.set_cons_succ, Value.cells, List.toList_toArray]; rfl) ?_
      refine at_q rfl rfl (by decide) (qt_assign rfl rfl) ?_
      refine at_end ?_
      refine at_retc ?_
      refine then_ret ?_
      refine at_ret2 rfl (rvCelS (k := 3) rfl tys_spec_l13Span rfl rfl) (.tmp rfl) ?_
      intro w' hs
      have q : ((ix && iy) = true) = False := (by simp at c1; simp; exact c1)
      exact ⟨by simp only [q, if_false]; simp at c1; cases ix <;> simp_all [sp0], hs.fin⟩
    · try simp only [decide_eq_true_eq, decide_eq_false_iff_not, beq_iff_eq, beq_eq_false_iff_ne, Bool.not_eq_true', Bool.not_eq_false', Bool.not_true, Bool.not_false, Int.not_lt, Int.not_le, ne_eq, Nat.not_lt, Nat.not_le] at c1
      have q : (ix && iy) = true := (by simpa using c1)
      refine at_skip ?_
      refine norm_then ?_
      refine at_seq ?_
      refine dg_start mixed rfl ?_
      refine dg_phase 5 ?_
      refine dg_q (i := 0) rfl (by kernel_rfl) (by kernel_rfl) (by kernel_rfl) [] (by kernel_rfl) (fun _ _ _ h => h) rfl rfl (by decide) (fun _ h => h.upto ⟨rfl, rfl, rfl, rfl, rfl, rfl, rfl, trivial⟩) (qt_loadS rfl rfl tys_spec_l13Span rfl (rdAll (k := 4) rfl)) ?_
      refine dg_q (i := 1) rfl (by kernel_rfl) (by kernel_rfl) (by kernel_rfl) [] (by kernel_rfl) (fun _ _ _ h => h) rfl rfl (by decide) (fun _ h => h.upto ⟨rfl, rfl, rfl, rfl, rfl, rfl, rfl, trivial⟩) (qt_loadS rfl rfl tys_spec_l13Span rfl (rdAll (k := 5) rfl)) ?_
      refine dg_q (i := 2) rfl (by kernel_rfl) (by kernel_rfl) (by kernel_rfl) [] (by kernel_rfl) (fun _ _ _ h => h) rfl rfl (by decide) (fun _ h => h.upto ⟨rfl, rfl, rfl, rfl, rfl, rfl, rfl, trivial⟩) (qt_call ok_spec_l13Meet rfl rfl (fun w h => l13Meet_any sp0 sx w sp0_bd hx)) ?_
      refine dg_q (i := 3) rfl (by kernel_rfl) (by kernel_rfl) (by kernel_rfl) [] (by kernel_rfl) (fun _ _ _ h => h) rfl rfl (by decide) (fun _ h => h.upto ⟨rfl, rfl, rfl, rfl, rfl, rfl, rfl, trivial⟩) (qt_loadS rfl rfl tys_spec_l13Span rfl (rdAll (k := 6) rfl)) ?_
      refine dg_q (i := 4) rfl (by kernel_rfl) (by kernel_rfl) (by kernel_rfl) [] (by kernel_rfl) (fun _ _ _ h => h) rfl rfl (by decide) (fun _ h => h.upto ⟨rfl, rfl, rfl, rfl, rfl, rfl, rfl, trivial⟩) (qt_call ok_spec_l13Meet rfl rfl (fun w h => hC w)) ?_
      refine dg_bar rfl (by kernel_rfl) rfl ?_
      refine op_storeAll' (k := 4) rfl rfl rfl rfl (rfl) (by rfl) tyz_spec_l13Span.szx rfl rfl rfl ?_
      refine at_rsE (by simp only [List.nil_append, List.cons_append, List.set_cons_zero, List.set_cons_succ, Value.cells, List.toList_toArray]; rfl) ?_
      refine dg_end (by kernel_rfl) ?_
      refine norm_then ?_
      refine at_seq ?_
      refine at_region ?_
      refine at_q rfl rfl (by decide) (qt_fieldAddr rfl rfl tyf_spec_l13Span_0) ?_
      refine at_q rfl rfl (by decide) (qt_load1 rfl rfl ty1_int64 (rd1 (k := 4) rfl rfl)) ?_
      refine at_q rfl rfl (by decide) (qt_fieldAddr rfl rfl tyf_spec_l13Span_3) ?_
      refine at_q rfl rfl (by decide) (qt_load1 rfl rfl ty1_int64 (rd1 (k := 4) rfl rfl)) ?_
      refine at_q rfl rfl (by decide) (qt_mul rfl rfl rfl (by omega) (by omega)) ?_
      refine at_q rfl rfl (by decide) (qt_fieldAddr rfl rfl tyf_spec_l13Span_2) ?_
      refine at_q rfl rfl (by decide) (qt_load1 rfl rfl ty1_int64 (rd1 (k := 4) rfl rfl)) ?_
      refine at_q rfl rfl (by decide) (qt_fieldAddr rfl rfl tyf_spec_l13Span_1) ?_
      refine at_q rfl rfl (by decide) (qt_load1 rfl rfl ty1_int64 (rd1 (k := 4) rfl rfl)) ?_
      refine at_q rfl rfl (by decide) (qt_mul rfl rfl rfl (by omega) (by omega)) ?_
      refine at_q rfl rfl (by decide) (qt_sub rfl rfl rfl (by omega) (by omega)) ?_
      refine at_q rfl rfl (by decide) (qt_assign rfl rfl) ?_
      refine at_end ?_
      refine at_seq ?_
      refine dg_start mixed rfl ?_
      refine dg_phaseW 17 [3] ?_
      refine dg_q (i := 0) rfl (by kernel_rfl) (by kernel_rfl) (by kernel_rfl) [] (by kernel_rfl) (fun _ _ _ h => h) rfl rfl (by decide) (fun _ h => (h.wk [3]).upto ⟨rfl, rfl, rfl, rfl, rfl, rfl, rfl, trivial⟩) (qt_loadS rfl rfl tys_spec_l13Span rfl (rdAll (k := 4) rfl)) ?_
      refine dg_q (i := 1) rfl (by kernel_rfl) (by kernel_rfl) (by kernel_rfl) [] (by kernel_rfl) (fun _ _ _ h => h) rfl rfl (by decide) (fun _ h => (h.wk [3]).upto ⟨rfl, rfl, rfl, rfl, rfl, rfl, rfl, trivial⟩) (qt_move rfl rfl) ?_
      refine dg_q (i := 2) rfl (by kernel_rfl) (by kernel_rfl) (by kernel_rfl) [] (by kernel_rfl) (fun _ _ _ h => h) rfl rfl (by decide) (fun _ h => (h.wk [3]).upto ⟨rfl, rfl, rfl, rfl, rfl, rfl, rfl, trivial⟩) (qt_lss rfl rfl rfl) ?_
      refine dg_q (i := 3) rfl (by kernel_rfl) (by kernel_rfl) (by kernel_rfl) [] (by kernel_rfl) (fun _ _ _ h => h) rfl rfl (by decide) (fun _ h => (h.wk [3]).upto ⟨rfl, rfl, rfl, rfl, rfl, rfl, rfl, trivial⟩) (qt_move rfl rfl) ?_
      refine at_bsplit 83 rfl (fun g2 => ?_) (fun g2 => ?_)
      · try simp only [decide_eq_true_eq, decide_eq_false_iff_not, beq_iff_eq, beq_eq_false_iff_ne, Bool.not_eq_true', Bool.not_eq_false', Bool.not_true, Bool.not_false, Int.not_lt, Int.not_le, ne_eq, Nat.not_lt, Nat.not_le] at g2
        refine dg_off (i := 4) rfl (by kernel_rfl) (by kernel_rfl) (by kernel_rfl) [] (by kernel_rfl) (fun _ _ _ h => h) rfl rfl rfl rfl (by decide) rfl (by decide) (fun _ h => (h.wk [3]).upto ⟨rfl, rfl, rfl, rfl, rfl, rfl, rfl, trivial⟩) ?_
        refine dg_off (i := 5) rfl (by kernel_rfl) (by kernel_rfl) (by kernel_rfl) [] (by kernel_rfl) (fun _ _ _ h => h) rfl rfl rfl rfl (by decide) rfl (by decide) (fun _ h => (h.wk [3]).upto ⟨rfl, rfl, rfl, rfl, rfl, rfl, rfl, trivial⟩) ?_
        refine dg_off (i := 6) rfl (by kernel_rfl) (by kernel_rfl) (by kernel_rfl) [] (by kernel_rfl) (fun _ _ _ h => h) rfl rfl rfl rfl (by decide) rfl (by decide) (fun _ h => (h.wk [3]).upto ⟨rfl, rfl, rfl, rfl, rfl, rfl, rfl, trivial⟩) ?_
        refine dg_offu (i := 7) rfl (by kernel_rfl) (by kernel_rfl) (by kernel_rfl) [] (by kernel_rfl) (fun _ _ _ h => h) rfl rfl rfl rfl rfl (by decide) (fun _ h => (h.wk [3]).upto ⟨rfl, rfl, rfl, rfl, rfl, rfl, rfl, trivial⟩) ?_
        refine dg_offu (i := 8) rfl (by kernel_rfl) (by kernel_rfl) (by kernel_rfl) [] (by kernel_rfl) (fun _ _ _ h => h) rfl rfl rfl rfl rfl (by decide) (fun _ h => (h.wk [3]).upto ⟨rfl, rfl, rfl, rfl, rfl, rfl, rfl, trivial⟩) ?_
        refine dg_off (i := 9) rfl (by kernel_rfl) (by kernel_rfl) (by kernel_rfl) [] (by kernel_rfl) (fun _ _ _ h => h) rfl rfl rfl rfl (by decide) rfl (by decide) (fun _ h => (h.wk [3]).upto ⟨rfl, rfl, rfl, rfl, rfl, rfl, rfl, trivial⟩) ?_
        refine dg_off (i := 10) rfl (by kernel_rfl) (by kernel_rfl) (by kernel_rfl) [] (by kernel_rfl) (fun _ _ _ h => h) rfl rfl rfl rfl (by decide) rfl (by decide) (fun _ h => (h.wk [3]).upto ⟨rfl, rfl, rfl, rfl, rfl, rfl, rfl, trivial⟩) ?_
        refine dg_offu (i := 11) rfl (by kernel_rfl) (by kernel_rfl) (by kernel_rfl) [] (by kernel_rfl) (fun _ _ _ h => h) rfl rfl rfl rfl rfl (by decide) (fun _ h => (h.wk [3]).upto ⟨rfl, rfl, rfl, rfl, rfl, rfl, rfl, trivial⟩) ?_
        refine dg_offu (i := 12) rfl (by kernel_rfl) (by kernel_rfl) (by kernel_rfl) [] (by kernel_rfl) (fun _ _ _ h => h) rfl rfl rfl rfl rfl (by decide) (fun _ h => (h.wk [3]).upto ⟨rfl, rfl, rfl, rfl, rfl, rfl, rfl, trivial⟩) ?_
        refine dg_off (i := 13) rfl (by kernel_rfl) (by kernel_rfl) (by kernel_rfl) [] (by kernel_rfl) (fun _ _ _ h => h) rfl rfl rfl rfl (by decide) rfl (by decide) (fun _ h => (h.wk [3]).upto ⟨rfl, rfl, rfl, rfl, rfl, rfl, rfl, trivial⟩) ?_
        refine dg_q (i := 14) rfl (by kernel_rfl) (by kernel_rfl) (by kernel_rfl) [] (by kernel_rfl) (fun _ _ _ h => h) rfl rfl (by decide) (fun _ h => (h.wk [3]).upto ⟨rfl, rfl, rfl, rfl, rfl, rfl, rfl, trivial⟩) (qt_pickT rfl rfl rfl) ?_
        refine dg_one (i := 15) rfl (by decide) (by kernel_rfl) rfl ?_
        refine op_storeAll' (k := 3) rfl rfl rfl rfl (rfl) (by rfl) tyz_spec_l13Span.szx rfl rfl rfl ?_
        refine at_rsE (by simp only [List.nil_append, List.cons_append, List.set_cons_zero, List.set_cons_succ, Value.cells, List.toList_toArray]; rfl) ?_
        refine dr_keep (fun _ h => (h.wk [3]).upto ⟨rfl, rfl, rfl, rfl, rfl, rfl, rfl, trivial⟩) ?_
        refine dg_q (i := 16) rfl (by kernel_rfl) (by kernel_rfl) (by kernel_rfl) [] (by kernel_rfl) (fun _ _ _ h => h) rfl rfl (by decide) (fun _ h => (h.wk [3]).upto ⟨rfl, rfl, rfl, rfl, rfl, rfl, rfl, trivial⟩) (qt_assign rfl rfl) ?_
        refine dg_done (by kernel_rfl) ?_
        refine norm_then ?_
        refine at_retc ?_
        refine at_ret2 rfl (rvCelS (k := 3) rfl tys_spec_l13Span rfl rfl) (.tmp rfl) ?_
        intro w' hs
        exact ⟨by rw [if_pos q, q, Bool.true_and, show nonE s2 = true from (by simp [nonE]; omega)], hs.fin⟩
      · try simp only [decide_eq_true_eq, decide_eq_false_iff_not, beq_iff_eq, beq_eq_false_iff_ne, Bool.not_eq_true', Bool.not_eq_false', Bool.not_true, Bool.not_false, Int.not_lt, Int.not_le, ne_eq, Nat.not_lt, Nat.not_le] at g2
        refine dg_qg (i := 4) rfl (by kernel_rfl) (by kernel_rfl) (by kernel_rfl) [] (by kernel_rfl) (fun _ _ _ h => h) rfl rfl rfl rfl rfl (by decide) (fun _ h => (h.wk [3]).upto ⟨rfl, rfl, rfl, rfl, rfl, rfl, rfl, trivial⟩) (qt_move rfl rfl) ?_
        refine dg_qg (i := 5) rfl (by kernel_rfl) (by kernel_rfl) (by kernel_rfl) [] (by kernel_rfl) (fun _ _ _ h => h) rfl rfl rfl rfl rfl (by decide) (fun _ h => (h.wk [3]).upto ⟨rfl, rfl, rfl, rfl, rfl, rfl, rfl, trivial⟩) (qt_eql rfl rfl rfl) ?_
        refine dg_qg (i := 6) rfl (by kernel_rfl) (by kernel_rfl) (by kernel_rfl) [] (by kernel_rfl) (fun _ _ _ h => h) rfl rfl rfl rfl rfl (by decide) (fun _ h => (h.wk [3]).upto ⟨rfl, rfl, rfl, rfl, rfl, rfl, rfl, trivial⟩) (qt_move rfl rfl) ?_
        refine at_bsplit 86 rfl (fun g3 => ?_) (fun g3 => ?_)
        · try simp only [decide_eq_true_eq, decide_eq_false_iff_not, beq_iff_eq, beq_eq_false_iff_ne, Bool.not_eq_true', Bool.not_eq_false', Bool.not_true, Bool.not_false, Int.not_lt, Int.not_le, ne_eq, Nat.not_lt, Nat.not_le] at g3
          refine dg_qg (i := 7) rfl (by kernel_rfl) (by kernel_rfl) (by kernel_rfl) [] (by kernel_rfl) (fun _ _ _ h => h) rfl rfl rfl rfl rfl (by decide) (fun _ h => (h.wk [3]).upto ⟨rfl, rfl, rfl, rfl, rfl, rfl, rfl, trivial⟩) (qt_fieldAddr rfl rfl tyf_spec_l13Span_4) ?_
          refine dg_qg (i := 8) rfl (by kernel_rfl) (by kernel_rfl) (by kernel_rfl) [] (by kernel_rfl) (fun _ _ _ h => h) rfl rfl rfl rfl rfl (by decide) (fun _ h => (h.wk [3]).upto ⟨rfl, rfl, rfl, rfl, rfl, rfl, rfl, trivial⟩) (qt_load1 rfl rfl ty1_bool (rd1 (k := 4) rfl rfl)) ?_
          refine dg_qg (i := 9) rfl (by kernel_rfl) (by kernel_rfl) (by kernel_rfl) [] (by kernel_rfl) (fun _ _ _ h => h) rfl rfl rfl rfl rfl (by decide) (fun _ h => (h.wk [3]).upto ⟨rfl, rfl, rfl, rfl, rfl, rfl, rfl, trivial⟩) (qt_pickT rfl rfl rfl) ?_
          refine dg_qg (i := 10) rfl (by kernel_rfl) (by kernel_rfl) (by kernel_rfl) [] (by kernel_rfl) (fun _ _ _ h => h) rfl rfl rfl rfl rfl (by decide) (fun _ h => (h.wk [3]).upto ⟨rfl, rfl, rfl, rfl, rfl, rfl, rfl, trivial⟩) (qt_move rfl rfl) ?_
          refine at_bsplit 90 rfl (fun g4 => ?_) (fun g4 => ?_)
          · try simp only [decide_eq_true_eq, decide_eq_false_iff_not, beq_iff_eq, beq_eq_false_iff_ne, Bool.not_eq_true', Bool.not_eq_false', Bool.not_true, Bool.not_false, Int.not_lt, Int.not_le, ne_eq, Nat.not_lt, Nat.not_le] at g4
            refine dg_qg (i := 11) rfl (by kernel_rfl) (by kernel_rfl) (by kernel_rfl) [] (by kernel_rfl) (fun _ _ _ h => h) rfl rfl rfl rfl rfl (by decide) (fun _ h => (h.wk [3]).upto ⟨rfl, rfl, rfl, rfl, rfl, rfl, rfl, trivial⟩) (qt_fieldAddr rfl rfl tyf_spec_l13Span_5) ?_
            refine dg_qg (i := 12) rfl (by kernel_rfl) (by kernel_rfl) (by kernel_rfl) [] (by kernel_rfl) (fun _ _ _ h => h) rfl rfl rfl rfl rfl (by decide) (fun _ h => (h.wk [3]).upto ⟨rfl, rfl, rfl, rfl, rfl, rfl, rfl, trivial⟩) (qt_load1 rfl rfl ty1_bool (rd1 (k := 4) rfl rfl)) ?_
            refine dg_qg (i := 13) rfl (by kernel_rfl) (by kernel_rfl) (by kernel_rfl) [] (by kernel_rfl) (fun _ _ _ h => h) rfl rfl rfl rfl rfl (by decide) (fun _ h => (h.wk [3]).upto ⟨rfl, rfl, rfl, rfl, rfl, rfl, rfl, trivial⟩) (qt_pickT rfl rfl rfl) ?_
            refine dg_q (i := 14) rfl (by kernel_rfl) (by kernel_rfl) (by kernel_rfl) [] (by kernel_rfl) (fun _ _ _ h => h) rfl rfl (by decide) (fun _ h => (h.wk [3]).upto ⟨rfl, rfl, rfl, rfl, rfl, rfl, rfl, trivial⟩) (qt_pickF rfl rfl rfl) ?_
            refine dg_one (i := 15) rfl (by decide) (by kernel_rfl) rfl ?_
            refine op_storeAll' (k := 3) rfl rfl rfl rfl (rfl) (by rfl) tyz_spec_l13Span.szx rfl rfl rfl ?_
            refine at_rsE (by simp only [List.nil_append, List.cons_append, List.set_cons_zero, List.set_cons_succ, Value.cells, List.toList_toArray]; rfl) ?_
            refine dr_keep (fun _ h => (h.wk [3]).upto ⟨rfl, rfl, rfl, rfl, rfl, rfl, rfl, trivial⟩) ?_
            refine dg_q (i := 16) rfl (by kernel_rfl) (by kernel_rfl) (by kernel_rfl) [] (by kernel_rfl) (fun _ _ _ h => h) rfl rfl (by decide) (fun _ h => (h.wk [3]).upto ⟨rfl, rfl, rfl, rfl, rfl, rfl, rfl, trivial⟩) (qt_assign rfl rfl) ?_
            refine dg_done (by kernel_rfl) ?_
            refine norm_then ?_
            refine at_retc ?_
            refine at_ret2 rfl (rvCelS (k := 3) rfl tys_spec_l13Span rfl rfl) (.tmp rfl) ?_
            intro w' hs
            exact ⟨by rw [if_pos q, q, Bool.true_and, show nonE s2 = s2.hc from (by simp [nonE, *])], hs.fin⟩
          · try simp only [decide_eq_true_eq, decide_eq_false_iff_not, beq_iff_eq, beq_eq_false_iff_ne, Bool.not_eq_true', Bool.not_eq_false', Bool.not_true, Bool.not_false, Int.not_lt, Int.not_le, ne_eq, Nat.not_lt, Nat.not_le] at g4
            refine dg_off (i := 11) rfl (by kernel_rfl) (by kernel_rfl) (by kernel_rfl) [] (by kernel_rfl) (fun _ _ _ h => h) rfl rfl rfl rfl (by decide) rfl (by decide) (fun _ h => (h.wk [3]).upto ⟨rfl, rfl, rfl, rfl, rfl, rfl, rfl, trivial⟩) ?_
            refine dg_off (i := 12) rfl (by kernel_rfl) (by kernel_rfl) (by kernel_rfl) [] (by kernel_rfl) (fun _ _ _ h => h) rfl rfl rfl rfl (by decide) rfl (by decide) (fun _ h => (h.wk [3]).upto ⟨rfl, rfl, rfl, rfl, rfl, rfl, rfl, trivial⟩) ?_
            refine dg_qg (i := 13) rfl (by kernel_rfl) (by kernel_rfl) (by kernel_rfl) [] (by kernel_rfl) (fun _ _ _ h => h) rfl rfl rfl rfl rfl (by decide) (fun _ h => (h.wk [3]).upto ⟨rfl, rfl, rfl, rfl, rfl, rfl, rfl, trivial⟩) (qt_pickF rfl rfl rfl) ?_
            refine dg_q (i := 14) rfl (by kernel_rfl) (by kernel_rfl) (by kernel_rfl) [] (by kernel_rfl) (fun _ _ _ h => h) rfl rfl (by decide) (fun _ h => (h.wk [3]).upto ⟨rfl, rfl, rfl, rfl, rfl, rfl, rfl, trivial⟩) (qt_pickF rfl rfl rfl) ?_
            refine dg_one (i := 15) rfl (by decide) (by kernel_rfl) rfl ?_
            refine op_storeAll' (k := 3) rfl rfl rfl rfl (rfl) (by rfl) tyz_spec_l13Span.szx rfl rfl rfl ?_
            refine at_rsE (by simp only [List.nil_append, List.cons_append, List.set_cons_zero, List.set_cons_succ, Value.cells, List.toList_toArray]; rfl) ?_
            refine dr_keep (fun _ h => (h.wk [3]).upto ⟨rfl, rfl, rfl, rfl, rfl, rfl, rfl, trivial⟩) ?_
            refine dg_q (i := 16) rfl (by kernel_rfl) (by kernel_rfl) (by kernel_rfl) [] (by kernel_rfl) (fun _ _ _ h => h) rfl rfl (by decide) (fun _ h => (h.wk [3]).upto ⟨rfl, rfl, rfl, rfl, rfl, rfl, rfl, trivial⟩) (qt_assign rfl rfl) ?_
            refine dg_done (by kernel_rfl) ?_
            refine norm_then ?_
            refine at_retc ?_
            refine at_ret2 rfl (rvCelS (k := 3) rfl tys_spec_l13Span rfl rfl) (.tmp rfl) ?_
            intro w' hs
            exact ⟨by rw [if_pos q, q, Bool.true_and, show nonE s2 = false from (by simp [nonE, *])], hs.fin⟩
        · try simp only [decide_eq_true_eq, decide_eq_false_iff_not, beq_iff_eq, beq_eq_false_iff_ne, Bool.not_eq_true', Bool.not_eq_false', Bool.not_true, Bool.not_false, Int.not_lt, Int.not_le, ne_eq, Nat.not_lt, Nat.not_le] at g3
          refine dg_off (i := 7) rfl (by kernel_rfl) (by kernel_rfl) (by kernel_rfl) [] (by kernel_rfl) (fun _ _ _ h => h) rfl rfl rfl rfl (by decide) rfl (by decide) (fun _ h => (h.wk [3]).upto ⟨rfl, rfl, rfl, rfl, rfl, rfl, rfl, trivial⟩) ?_
          refine dg_off (i := 8) rfl (by kernel_rfl) (by kernel_rfl) (by kernel_rfl) [] (by kernel_rfl) (fun _ _ _ h => h) rfl rfl rfl rfl (by decide) rfl (by decide) (fun _ h => (h.wk [3]).upto ⟨rfl, rfl, rfl, rfl, rfl, rfl, rfl, trivial⟩) ?_
          refine dg_qg (i := 9) rfl (by kernel_rfl) (by kernel_rfl) (by kernel_rfl) [] (by kernel_rfl) (fun _ _ _ h => h) rfl rfl rfl rfl rfl (by decide) (fun _ h => (h.wk [3]).upto ⟨rfl, rfl, rfl, rfl, rfl, rfl, rfl, trivial⟩) (qt_pickF rfl rfl rfl) ?_
          refine dg_qg (i := 10) rfl (by kernel_rfl) (by kernel_rfl) (by kernel_rfl) [] (by kernel_rfl) (fun _ _ _ h => h) rfl rfl rfl rfl rfl (by decide) (fun _ h => (h.wk [3]).upto ⟨rfl, rfl, rfl, rfl, rfl, rfl, rfl, trivial⟩) (qt_move rfl rfl) ?_
          refine dg_off (i := 11) rfl (by kernel_rfl) (by kernel_rfl) (by kernel_rfl) [] (by kernel_rfl) (fun _ _ _ h => h) rfl rfl rfl rfl (by decide) rfl (by decide) (fun _ h => (h.wk [3]).upto ⟨rfl, rfl, rfl, rfl, rfl, rfl, rfl, trivial⟩) ?_
          refine dg_off (i := 12) rfl (by kernel_rfl) (by kernel_rfl) (by kernel_rfl) [] (by kernel_rfl) (fun _ _ _ h => h) rfl rfl rfl rfl (by decide) rfl (by decide) (fun _ h => (h.wk [3]).upto ⟨rfl, rfl, rfl, rfl, rfl, rfl, rfl, trivial⟩) ?_
          refine dg_qg (i := 13) rfl (by kernel_rfl) (by kernel_rfl) (by kernel_rfl) [] (by kernel_rfl) (fun _ _ _ h => h) rfl rfl rfl rfl rfl (by decide) (fun _ h => (h.wk [3]).upto ⟨rfl, rfl, rfl, rfl, rfl, rfl, rfl, trivial⟩) (qt_pickF rfl rfl rfl) ?_
          refine dg_q (i := 14) rfl (by kernel_rfl) (by kernel_rfl) (by kernel_rfl) [] (by kernel_rfl) (fun _ _ _ h => h) rfl rfl (by decide) (fun _ h => (h.wk [3]).upto ⟨rfl, rfl, rfl, rfl, rfl, rfl, rfl, trivial⟩) (qt_pickF rfl rfl rfl) ?_
          refine dg_one (i := 15) rfl (by decide) (by kernel_rfl) rfl ?_
          refine op_storeAll' (k := 3) rfl rfl rfl rfl (rfl) (by rfl) tyz_spec_l13Span.szx rfl rfl rfl ?_
          refine at_rsE (by simp only [List.nil_append, List.cons_append, List.set_cons_zero, List.set_cons_succ, Value.cells, List.toList_toArray]; rfl) ?_
          refine dr_keep (fun _ h => (h.wk [3]).upto ⟨rfl, rfl, rfl, rfl, rfl, rfl, rfl, trivial⟩) ?_
          refine dg_q (i := 16) rfl (by kernel_rfl) (by kernel_rfl) (by kernel_rfl) [] (by kernel_rfl) (fun _ _ _ h => h) rfl rfl (by decide) (fun _ h => (h.wk [3]).upto ⟨rfl, rfl, rfl, rfl, rfl, rfl, rfl, trivial⟩) (qt_assign rfl rfl) ?_
          refine dg_done (by kernel_rfl) ?_
          refine norm_then ?_
          refine at_retc ?_
          refine at_ret2 rfl (rvCelS (k := 3) rfl tys_spec_l13Span rfl rfl) (.tmp rfl) ?_
          intro w' hs
          exact ⟨by rw [if_pos q, q, Bool.true_and, show nonE s2 = false from (by simp [nonE]; omega)], hs.fin⟩

end Go.Proofs.Ytakdjgldcpompaa
