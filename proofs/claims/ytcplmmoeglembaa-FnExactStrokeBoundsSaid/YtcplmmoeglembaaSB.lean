/- Bounds of strokes: the program's. -/
import Derived.Test.YtcplmmoeglembaaSweep
import Derived.Test.YtcplmmoeglembaaSd2
namespace Go.Proofs.Ytcplmmoeglembaa
open Go Go.RowKit
set_option linter.unusedVariables false
set_option linter.unusedSimpArgs false
set_option maxRecDepth 100000
set_option maxHeartbeats 4000000
set_option linter.unusedVariables false
set_option linter.unusedSimpArgs false

theorem StrokeBounds_any (A : Option Addr) (n c : Nat) (a : List Pn) (B : Option Addr) (m d : Nat) (b : List Pn) (w : World) (h : Pts w A n a) (h2 : Pts w B m b) (hn : (n : Int) ≤ 1048576) (hm : (m : Int) ≤ 1048576) (hc : n ≤ c := by omega) (hd : m ≤ d := by omega) :
    Calls Try.prog 24 #[.slice A n c, .slice B m d] w fun e w' => e = .returned (sbV a b) ∧ Over w w' := by
  have hl := h.1
  have hl2 := h2.1
  have eL : sbLo a b = (loX a n + loX b m, loY a n + loY b m) := by rw [sbLo, hl, hl2]
  have eH : sbHi a b = (hiX a n + hiX b m, hiY a n + hiY b m) := by rw [sbHi, hl, hl2]
  have hal : allOk [sbLo a b, sbHi a b] = (okB (sbLo a b).1 (sbLo a b).2 && okB (sbHi a b).1 (sbHi a b).2) := by simp [allOk]
  refine walk_from (m := 62) (Try.func24) rfl rfl (Nat.le_of_ble_eq_true rfl) ?_
  refine at_seq ?_
  refine at_region ?_
  refine at_op rfl ?_
  refine op_alloc rfl tyz_impl_Pt rfl (by decide) (fun b1 => ?_)
  refine at_rsE (by simp only [List.nil_append, List.cons_append, List.set_cons_zero, List.set_cons_succ, Value.cells, List.toList_toArray]; rfl) ?_
  refine at_op rfl ?_
  refine op_alloc rfl tyz_impl_Pt rfl (by decide) (fun b2 => ?_)
  refine at_rsE (by simp only [List.nil_append, List.cons_append, List.set_cons_zero, List.set_cons_succ, Value.cells, List.toList_toArray]; rfl) ?_
  refine at_q rfl rfl (by decide) (qt_assign rfl rfl) ?_
  refine at_end ?_
  refine at_seq ?_
  refine at_seq ?_
  refine at_region ?_
  refine at_q rfl rfl (by decide) (qt_move rfl rfl) ?_
  refine at_q rfl rfl (by decide) (qt_call ok_impl_IsPen rfl rfl (fun w1 hs => IsPen_any A n c a w1 (h.over hs.fin) hn)) ?_
  refine at_q rfl rfl (by decide) (qt_not rfl rfl) ?_
  refine at_q rfl rfl (by decide) (qt_move rfl rfl) ?_
  refine at_bsplit 14 rfl (fun g1 => ?_) (fun g1 => ?_)
  · try simp only [decide_eq_true_eq, decide_eq_false_iff_not, beq_iff_eq, beq_eq_false_iff_ne, Bool.not_eq_true', Bool.not_eq_false', Bool.not_true, Bool.not_false, Int.not_lt, Int.not_le, ne_eq, Nat.not_lt, Nat.not_le] at g1
    refine at_off rfl rfl rfl rfl (by decide) rfl (by decide) ?_
    refine at_off rfl rfl rfl rfl (by decide) rfl (by decide) ?_
    refine at_off rfl rfl rfl rfl (by decide) rfl (by decide) ?_
    refine at_q rfl rfl (by decide) (qt_pickT rfl rfl rfl) ?_
    refine at_end ?_
    refine at_yes rfl rfl ?_
    refine at_seq ?_
    refine at_region ?_
    refine at_q rfl rfl (by decide) (qt_build rfl rfl (bld_impl_Pt_)) ?_
    refine at_q rfl rfl (by decide) (qt_build rfl rfl (bld_impl_Pt_)) ?_
    refine at_op rfl ?_
    refine op_storeAll' (k := 0) rfl rfl rfl rfl (rfl) (by rfl) tyz_impl_Pt.szx rfl rfl rfl ?_
    refine at_rsE (by simp only [List.nil_append, List.cons_append, List.set_cons_zero, List.set_cons_succ, Value.cells, List.toList_toArray]; rfl) ?_
    refine at_op rfl ?_
    refine op_storeAll' (k := 1) rfl rfl rfl rfl (rfl) (by rfl) tyz_impl_Pt.szx rfl rfl rfl ?_
    refine at_rsE (by simp only [List.nil_append, List.cons_append, List.set_cons_zero, List.set_cons_succ, Value.cells, List.toList_toArray]; rfl) ?_
    refine at_q rfl rfl (by decide) (qt_assign rfl rfl) ?_
    refine at_end ?_
    refine at_retc ?_
    refine then_ret ?_
    refine at_ret3 rfl (rvCelS (k := 0) rfl tys_impl_Pt rfl rfl) (rvCelS (k := 1) rfl tys_impl_Pt rfl rfl) (.tmp rfl) ?_
    intro w' hs
    exact ⟨by rw [sb_no (by simp_all)], hs.fin⟩
  · try simp only [decide_eq_true_eq, decide_eq_false_iff_not, beq_iff_eq, beq_eq_false_iff_ne, Bool.not_eq_true', Bool.not_eq_false', Bool.not_true, Bool.not_false, Int.not_lt, Int.not_le, ne_eq, Nat.not_lt, Nat.not_le] at g1
    refine at_on rfl rfl rfl rfl ?_
    refine op_q rfl (by decide) (qt_move rfl rfl) ?_
    refine at_on rfl rfl rfl rfl ?_
    refine op_q rfl (by decide) (qt_call ok_impl_isPath rfl rfl (fun w1 hs => isPath_any B m d b w1 (h2.over hs.fin) (by omega))) ?_
    refine at_on rfl rfl rfl rfl ?_
    refine op_q rfl (by decide) (qt_not rfl rfl) ?_
    refine at_q rfl rfl (by decide) (qt_pickF rfl rfl rfl) ?_
    refine at_end ?_
    refine at_cond rfl (fun c1 => ?_) (fun c1 => ?_)
    · try simp only [decide_eq_true_eq, decide_eq_false_iff_not, beq_iff_eq, beq_eq_false_iff_ne, Bool.not_eq_true', Bool.not_eq_false', Bool.not_true, Bool.not_false, Int.not_lt, Int.not_le, ne_eq, Nat.not_lt, Nat.not_le] at c1
      refine at_seq ?_
      refine at_region ?_
      refine at_q rfl rfl (by decide) (qt_build rfl rfl (bld_impl_Pt_)) ?_
      refine at_q rfl rfl (by decide) (qt_build rfl rfl (bld_impl_Pt_)) ?_
      refine at_op rfl ?_
      refine op_storeAll' (k := 0) rfl rfl rfl rfl (rfl) (by rfl) tyz_impl_Pt.szx rfl rfl rfl ?_
      refine at_rsE (by simp only [List.nil_append, List.cons_append, List.set_cons_zero, List.set_cons_succ, Value.cells, List.toList_toArray]; rfl) ?_
      refine at_op rfl ?_
      refine op_storeAll' (k := 1) rfl rfl rfl rfl (rfl) (by rfl) tyz_impl_Pt.szx rfl rfl rfl ?_
      refine at_rsE (by simp only [List.nil_append, List.cons_append, List.set_cons_zero, List.set_cons_succ, Value.cells, List.toList_toArray]; rfl) ?_
      refine at_q rfl rfl (by decide) (qt_assign rfl rfl) ?_
      refine at_end ?_
      refine at_retc ?_
      refine then_ret ?_
      refine at_ret3 rfl (rvCelS (k := 0) rfl tys_impl_Pt rfl rfl) (rvCelS (k := 1) rfl tys_impl_Pt rfl rfl) (.tmp rfl) ?_
      intro w' hs
      exact ⟨by rw [sb_no (by simp_all)], hs.fin⟩
    · try simp only [decide_eq_true_eq, decide_eq_false_iff_not, beq_iff_eq, beq_eq_false_iff_ne, Bool.not_eq_true', Bool.not_eq_false', Bool.not_true, Bool.not_false, Int.not_lt, Int.not_le, ne_eq, Nat.not_lt, Nat.not_le] at c1
      have hpa : penB a = true := by simp_all
      have hpb : ringB b = true := by simp_all
      have hB : (penB a && ringB b) = true := by rw [hpa, hpb]; rfl
      obtain ⟨ka, ka2, _⟩ := pen_of hpa
      obtain ⟨kb, kb2⟩ := ring_in hpb
      obtain ⟨⟨⟨x1, x2⟩, x3, x4⟩, ⟨x5, x6⟩, x7, x8⟩ := bds_in hl (by omega) (allOk_bd ka2)
      obtain ⟨⟨⟨y1, y2⟩, y3, y4⟩, ⟨y5, y6⟩, y7, y8⟩ := bds_in hl2 (by omega) kb2
      simp only at x1 x2 x3 x4 x5 x6 x7 x8 y1 y2 y3 y4 y5 y6 y7 y8
      refine at_skip ?_
      refine norm_then ?_
      refine at_seq ?_
      refine at_region ?_
      refine at_q rfl rfl (by decide) (qt_move rfl rfl) ?_
      refine at_q rfl rfl (by decide) (qt_call ok_impl_boundsOf rfl rfl (fun w1 hs => boundsOf_any A n c a w1 (h.over hs.fin) hn (by omega) hc)) ?_
      refine at_q rfl rfl (by decide) (qt_move rfl rfl) ?_
      refine at_q rfl rfl (by decide) (qt_extract rfl rfl rfl) ?_
      refine at_q rfl rfl (by decide) (qt_extract rfl rfl rfl) ?_
      refine at_op rfl ?_
      refine op_alloc rfl tyz_impl_Pt rfl (by decide) (fun b3 => ?_)
      refine at_rsE (by simp only [List.nil_append, List.cons_append, List.set_cons_zero, List.set_cons_succ, Value.cells, List.toList_toArray]; rfl) ?_
      refine at_op rfl ?_
      refine op_alloc rfl tyz_impl_Pt rfl (by decide) (fun b4 => ?_)
      refine at_rsE (by simp only [List.nil_append, List.cons_append, List.set_cons_zero, List.set_cons_succ, Value.cells, List.toList_toArray]; rfl) ?_
      refine at_op rfl ?_
      refine op_storeAll' (k := 2) rfl rfl rfl rfl (rfl) (by rfl) tyz_impl_Pt.szx rfl rfl rfl ?_
      refine at_rsE (by simp only [List.nil_append, List.cons_append, List.set_cons_zero, List.set_cons_succ, Value.cells, List.toList_toArray]; rfl) ?_
      refine at_op rfl ?_
      refine op_storeAll' (k := 3) rfl rfl rfl rfl (rfl) (by rfl) tyz_impl_Pt.szx rfl rfl rfl ?_
      refine at_rsE (by simp only [List.nil_append, List.cons_append, List.set_cons_zero, List.set_cons_succ, Value.cells, List.toList_toArray]; rfl) ?_
      refine at_end ?_
      refine at_seq ?_
      refine at_region ?_
      refine at_q rfl rfl (by decide) (qt_move rfl rfl) ?_
      refine at_q rfl rfl (by decide) (qt_call ok_impl_boundsOf rfl rfl (fun w1 hs => boundsOf_any B m d b w1 (h2.over hs.fin) hm (by omega) hd)) ?_
      refine at_q rfl rfl (by decide) (qt_move rfl rfl) ?_
      refine at_q rfl rfl (by decide) (qt_extract rfl rfl rfl) ?_
      refine at_q rfl rfl (by decide) (qt_extract rfl rfl rfl) ?_
      refine at_op rfl ?_
      refine op_alloc rfl tyz_impl_Pt rfl (by decide) (fun b5 => ?_)
      refine at_rsE (by simp only [List.nil_append, List.cons_append, List.set_cons_zero, List.set_cons_succ, Value.cells, List.toList_toArray]; rfl) ?_
      refine at_op rfl ?_
      refine op_alloc rfl tyz_impl_Pt rfl (by decide) (fun b6 => ?_)
      refine at_rsE (by simp only [List.nil_append, List.cons_append, List.set_cons_zero, List.set_cons_succ, Value.cells, List.toList_toArray]; rfl) ?_
      refine at_op rfl ?_
      refine op_storeAll' (k := 4) rfl rfl rfl rfl (rfl) (by rfl) tyz_impl_Pt.szx rfl rfl rfl ?_
      refine at_rsE (by simp only [List.nil_append, List.cons_append, List.set_cons_zero, List.set_cons_succ, Value.cells, List.toList_toArray]; rfl) ?_
      refine at_op rfl ?_
      refine op_storeAll' (k := 5) rfl rfl rfl rfl (rfl) (by rfl) tyz_impl_Pt.szx rfl rfl rfl ?_
      refine at_rsE (by simp only [List.nil_append, List.cons_append, List.set_cons_zero, List.set_cons_succ, Value.cells, List.toList_toArray]; rfl) ?_
      refine at_end ?_
      refine at_seq ?_
      refine dg_start mixed rfl ?_
      refine dh_phase 22 23 [2] ?_
      refine dh_q (i := 0) rfl (by kernel_rfl) (by kernel_rfl) (by kernel_rfl) [] (by kernel_rfl) (fun _ _ _ h => h) rfl rfl (by decide) (fun _ h => h.upto ⟨rfl, rfl, rfl, rfl, rfl, rfl, trivial⟩) (qt_fieldAddr rfl rfl tyf_impl_Pt_0) ?_
      refine dh_q (i := 1) rfl (by kernel_rfl) (by kernel_rfl) (by kernel_rfl) [] (by kernel_rfl) (fun _ _ _ h => h) rfl rfl (by decide) (fun _ h => h.upto ⟨rfl, rfl, rfl, rfl, rfl, rfl, trivial⟩) (qt_load1 rfl rfl ty1_int64 (rd1 (k := 2) rfl rfl)) ?_
      refine dh_q (i := 2) rfl (by kernel_rfl) (by kernel_rfl) (by kernel_rfl) [] (by kernel_rfl) (fun _ _ _ h => h) rfl rfl (by decide) (fun _ h => h.upto ⟨rfl, rfl, rfl, rfl, rfl, rfl, trivial⟩) (qt_fieldAddr rfl rfl tyf_impl_Pt_0) ?_
      refine dh_q (i := 3) rfl (by kernel_rfl) (by kernel_rfl) (by kernel_rfl) [] (by kernel_rfl) (fun _ _ _ h => h) rfl rfl (by decide) (fun _ h => h.upto ⟨rfl, rfl, rfl, rfl, rfl, rfl, trivial⟩) (qt_load1 rfl rfl ty1_int64 (rd1 (k := 4) rfl rfl)) ?_
      refine dh_q (i := 4) rfl (by kernel_rfl) (by kernel_rfl) (by kernel_rfl) [] (by kernel_rfl) (fun _ _ _ h => h) rfl rfl (by decide) (fun _ h => h.upto ⟨rfl, rfl, rfl, rfl, rfl, rfl, trivial⟩) (qt_add rfl rfl rfl (by omega) (by omega)) ?_
      refine dh_q (i := 5) rfl (by kernel_rfl) (by kernel_rfl) (by kernel_rfl) [] (by kernel_rfl) (fun _ _ _ h => h) rfl rfl (by decide) (fun _ h => h.upto ⟨rfl, rfl, rfl, rfl, rfl, rfl, trivial⟩) (qt_fieldAddr rfl rfl tyf_impl_Pt_1) ?_
      refine dh_q (i := 6) rfl (by kernel_rfl) (by kernel_rfl) (by kernel_rfl) [] (by kernel_rfl) (fun _ _ _ h => h) rfl rfl (by decide) (fun _ h => h.upto ⟨rfl, rfl, rfl, rfl, rfl, rfl, trivial⟩) (qt_load1 rfl rfl ty1_int64 (rd1 (k := 2) rfl rfl)) ?_
      refine dh_q (i := 7) rfl (by kernel_rfl) (by kernel_rfl) (by kernel_rfl) [] (by kernel_rfl) (fun _ _ _ h => h) rfl rfl (by decide) (fun _ h => h.upto ⟨rfl, rfl, rfl, rfl, rfl, rfl, trivial⟩) (qt_fieldAddr rfl rfl tyf_impl_Pt_1) ?_
      refine dh_q (i := 8) rfl (by kernel_rfl) (by kernel_rfl) (by kernel_rfl) [] (by kernel_rfl) (fun _ _ _ h => h) rfl rfl (by decide) (fun _ h => h.upto ⟨rfl, rfl, rfl, rfl, rfl, rfl, trivial⟩) (qt_load1 rfl rfl ty1_int64 (rd1 (k := 4) rfl rfl)) ?_
      refine dh_q (i := 9) rfl (by kernel_rfl) (by kernel_rfl) (by kernel_rfl) [] (by kernel_rfl) (fun _ _ _ h => h) rfl rfl (by decide) (fun _ h => h.upto ⟨rfl, rfl, rfl, rfl, rfl, rfl, trivial⟩) (qt_add rfl rfl rfl (by omega) (by omega)) ?_
      refine dh_q (i := 10) rfl (by kernel_rfl) (by kernel_rfl) (by kernel_rfl) [] (by kernel_rfl) (fun _ _ _ h => h) rfl rfl (by decide) (fun _ h => h.upto ⟨rfl, rfl, rfl, rfl, rfl, rfl, trivial⟩) (qt_build rfl rfl (bld_impl_Pt_0_1 rfl rfl)) ?_
      refine dh_ql (i := 11) rfl (by kernel_rfl) (by kernel_rfl) (by kernel_rfl) [] (by kernel_rfl) (fun _ _ _ h => h) rfl rfl (by decide) (fun _ h => h.upto ⟨rfl, rfl, rfl, rfl, rfl, rfl, trivial⟩) (qt_fieldAddr rfl rfl tyf_impl_Pt_0) (qt_fieldAddr rfl rfl tyf_impl_Pt_0) ?_
      refine dh_ql (i := 12) rfl (by kernel_rfl) (by kernel_rfl) (by kernel_rfl) [] (by kernel_rfl) (fun _ _ _ h => h) rfl rfl (by decide) (fun _ h => h.upto ⟨rfl, rfl, rfl, rfl, rfl, rfl, trivial⟩) (qt_load1 rfl rfl ty1_int64 (rd1 (k := 3) rfl rfl)) (qt_load1 rfl rfl ty1_int64 (rd1 (k := 3) rfl rfl)) ?_
      refine dh_ql (i := 13) rfl (by kernel_rfl) (by kernel_rfl) (by kernel_rfl) [] (by kernel_rfl) (fun _ _ _ h => h) rfl rfl (by decide) (fun _ h => h.upto ⟨rfl, rfl, rfl, rfl, rfl, rfl, trivial⟩) (qt_fieldAddr rfl rfl tyf_impl_Pt_0) (qt_fieldAddr rfl rfl tyf_impl_Pt_0) ?_
      refine dh_ql (i := 14) rfl (by kernel_rfl) (by kernel_rfl) (by kernel_rfl) [] (by kernel_rfl) (fun _ _ _ h => h) rfl rfl (by decide) (fun _ h => h.upto ⟨rfl, rfl, rfl, rfl, rfl, rfl, trivial⟩) (qt_load1 rfl rfl ty1_int64 (rd1 (k := 5) rfl rfl)) (qt_load1 rfl rfl ty1_int64 (rd1 (k := 5) rfl rfl)) ?_
      refine dh_ql (i := 15) rfl (by kernel_rfl) (by kernel_rfl) (by kernel_rfl) [] (by kernel_rfl) (fun _ _ _ h => h) rfl rfl (by decide) (fun _ h => h.upto ⟨rfl, rfl, rfl, rfl, rfl, rfl, trivial⟩) (qt_add rfl rfl rfl (by omega) (by omega)) (qt_add rfl rfl rfl (by omega) (by omega)) ?_
      refine dh_ql (i := 16) rfl (by kernel_rfl) (by kernel_rfl) (by kernel_rfl) [] (by kernel_rfl) (fun _ _ _ h => h) rfl rfl (by decide) (fun _ h => h.upto ⟨rfl, rfl, rfl, rfl, rfl, rfl, trivial⟩) (qt_fieldAddr rfl rfl tyf_impl_Pt_1) (qt_fieldAddr rfl rfl tyf_impl_Pt_1) ?_
      refine dh_ql (i := 17) rfl (by kernel_rfl) (by kernel_rfl) (by kernel_rfl) [] (by kernel_rfl) (fun _ _ _ h => h) rfl rfl (by decide) (fun _ h => h.upto ⟨rfl, rfl, rfl, rfl, rfl, rfl, trivial⟩) (qt_load1 rfl rfl ty1_int64 (rd1 (k := 3) rfl rfl)) (qt_load1 rfl rfl ty1_int64 (rd1 (k := 3) rfl rfl)) ?_
      refine dh_ql (i := 18) rfl (by kernel_rfl) (by kernel_rfl) (by kernel_rfl) [] (by kernel_rfl) (fun _ _ _ h => h) rfl rfl (by decide) (fun _ h => h.upto ⟨rfl, rfl, rfl, rfl, rfl, rfl, trivial⟩) (qt_fieldAddr rfl rfl tyf_impl_Pt_1) (qt_fieldAddr rfl rfl tyf_impl_Pt_1) ?_
      refine dh_ql (i := 19) rfl (by kernel_rfl) (by kernel_rfl) (by kernel_rfl) [] (by kernel_rfl) (fun _ _ _ h => h) rfl rfl (by decide) (fun _ h => h.upto ⟨rfl, rfl, rfl, rfl, rfl, rfl, trivial⟩) (qt_load1 rfl rfl ty1_int64 (rd1 (k := 5) rfl rfl)) (qt_load1 rfl rfl ty1_int64 (rd1 (k := 5) rfl rfl)) ?_
      refine dh_ql (i := 20) rfl (by kernel_rfl) (by kernel_rfl) (by kernel_rfl) [] (by kernel_rfl) (fun _ _ _ h => h) rfl rfl (by decide) (fun _ h => h.upto ⟨rfl, rfl, rfl, rfl, rfl, rfl, trivial⟩) (qt_add rfl rfl rfl (by omega) (by omega)) (qt_add rfl rfl rfl (by omega) (by omega)) ?_
      refine dh_ql (i := 21) rfl (by kernel_rfl) (by kernel_rfl) (by kernel_rfl) [] (by kernel_rfl) (fun _ _ _ h => h) rfl rfl (by decide) (fun _ h => h.upto ⟨rfl, rfl, rfl, rfl, rfl, rfl, trivial⟩) (qt_build rfl rfl (bld_impl_Pt_0_1 rfl rfl)) (qt_build rfl rfl (bld_impl_Pt_0_1 rfl rfl)) ?_
      refine dh_bar rfl (by kernel_rfl) rfl ?_
      refine op_storeAll' (k := 2) rfl rfl rfl rfl (rfl) (by rfl) tyz_impl_Pt.szx rfl rfl rfl ?_
      refine at_rsE (by simp only [List.nil_append, List.cons_append, List.set_cons_zero, List.set_cons_succ, Value.cells, List.toList_toArray]; rfl) ?_
      refine dr_keep (fun _ h => (h.wk [2]).upto ⟨rfl, rfl, rfl, rfl, rfl, rfl, trivial⟩) ?_
      refine dg_bar rfl (by kernel_rfl) rfl ?_
      refine op_storeAll' (k := 3) rfl rfl rfl rfl (rfl) (by rfl) tyz_impl_Pt.szx rfl rfl rfl ?_
      refine at_rsE (by simp only [List.nil_append, List.cons_append, List.set_cons_zero, List.set_cons_succ, Value.cells, List.toList_toArray]; rfl) ?_
      refine dg_end (by kernel_rfl) ?_
      refine norm_then ?_
      refine at_seq ?_
      refine at_seq ?_
      refine at_region ?_
      refine at_q rfl rfl (by decide) (qt_loadS rfl rfl tys_impl_Pt rfl (rdAll (k := 2) rfl)) ?_
      refine at_q rfl rfl (by decide) (qt_loadS rfl rfl tys_impl_Pt rfl (rdAll (k := 3) rfl)) ?_
      refine at_op rfl ?_
      refine op_buildSlice rfl rfl (bsl_sl_impl_Pt_2_0_1 rfl rfl) rfl (by decide) (fun b7 => ?_)
      refine at_rsE (by simp only [List.nil_append, List.cons_append, List.set_cons_zero, List.set_cons_succ, Value.cells, List.toList_toArray]; rfl) ?_
      refine at_q rfl rfl (by decide) (qt_call ok_impl_validPts rfl rfl (fun w1 hs => validPts_any _ 2 2 [sbLo a b, sbHi a b] w1 (ptsCel [sbLo a b, sbHi a b] (k := 6) (by rw [eL, eH]; rfl) rfl w1 hs) (by decide))) ?_
      refine at_q rfl rfl (by decide) (qt_not rfl rfl) ?_
      refine at_end ?_
      refine at_cond rfl (fun c2 => ?_) (fun c2 => ?_)
      · try simp only [decide_eq_true_eq, decide_eq_false_iff_not, beq_iff_eq, beq_eq_false_iff_ne, Bool.not_eq_true', Bool.not_eq_false', Bool.not_true, Bool.not_false, Int.not_lt, Int.not_le, ne_eq, Nat.not_lt, Nat.not_le] at c2
        refine at_seq ?_
        refine at_region ?_
        refine at_q rfl rfl (by decide) (qt_build rfl rfl (bld_impl_Pt_)) ?_
        refine at_q rfl rfl (by decide) (qt_build rfl rfl (bld_impl_Pt_)) ?_
        refine at_op rfl ?_
        refine op_storeAll' (k := 0) rfl rfl rfl rfl (rfl) (by rfl) tyz_impl_Pt.szx rfl rfl rfl ?_
        refine at_rsE (by simp only [List.nil_append, List.cons_append, List.set_cons_zero, List.set_cons_succ, Value.cells, List.toList_toArray]; rfl) ?_
        refine at_op rfl ?_
        refine op_storeAll' (k := 1) rfl rfl rfl rfl (rfl) (by rfl) tyz_impl_Pt.szx rfl rfl rfl ?_
        refine at_rsE (by simp only [List.nil_append, List.cons_append, List.set_cons_zero, List.set_cons_succ, Value.cells, List.toList_toArray]; rfl) ?_
        refine at_q rfl rfl (by decide) (qt_assign rfl rfl) ?_
        refine at_end ?_
        refine at_retc ?_
        refine then_ret ?_
        refine at_ret3 rfl (rvCelS (k := 0) rfl tys_impl_Pt rfl rfl) (rvCelS (k := 1) rfl tys_impl_Pt rfl rfl) (.tmp rfl) ?_
        intro w' hs
        exact ⟨by rw [sb_out hB (by simp_all [allOk])], hs.fin⟩
      · try simp only [decide_eq_true_eq, decide_eq_false_iff_not, beq_iff_eq, beq_eq_false_iff_ne, Bool.not_eq_true', Bool.not_eq_false', Bool.not_true, Bool.not_false, Int.not_lt, Int.not_le, ne_eq, Nat.not_lt, Nat.not_le] at c2
        refine at_skip ?_
        refine norm_then ?_
        refine at_seq ?_
        refine dg_start mixed rfl ?_
        refine dg_phaseW 5 [0, 1] ?_
        refine dg_q (i := 0) rfl (by kernel_rfl) (by kernel_rfl) (by kernel_rfl) [] (by kernel_rfl) (fun _ _ _ h => h) rfl rfl (by decide) (fun _ h => (h.wk [0, 1]).upto ⟨rfl, rfl, rfl, rfl, rfl, rfl, rfl, trivial⟩) (qt_loadS rfl rfl tys_impl_Pt rfl (rdAll (k := 2) rfl)) ?_
        refine dg_q (i := 1) rfl (by kernel_rfl) (by kernel_rfl) (by kernel_rfl) [] (by kernel_rfl) (fun _ _ _ h => h) rfl rfl (by decide) (fun _ h => (h.wk [0, 1]).upto ⟨rfl, rfl, rfl, rfl, rfl, rfl, rfl, trivial⟩) (qt_loadS rfl rfl tys_impl_Pt rfl (rdAll (k := 3) rfl)) ?_
        refine dg_one (i := 2) rfl (by decide) (by kernel_rfl) rfl ?_
        refine op_storeAll' (k := 0) rfl rfl rfl rfl (rfl) (by rfl) tyz_impl_Pt.szx rfl rfl rfl ?_
        refine at_rsE (by simp only [List.nil_append, List.cons_append, List.set_cons_zero, List.set_cons_succ, Value.cells, List.toList_toArray]; rfl) ?_
        refine dr_keep (fun _ h => (h.wk [0, 1]).upto ⟨rfl, rfl, rfl, rfl, rfl, rfl, rfl, trivial⟩) ?_
        refine dg_one (i := 3) rfl (by decide) (by kernel_rfl) rfl ?_
        refine op_storeAll' (k := 1) rfl rfl rfl rfl (rfl) (by rfl) tyz_impl_Pt.szx rfl rfl rfl ?_
        refine at_rsE (by simp only [List.nil_append, List.cons_append, List.set_cons_zero, List.set_cons_succ, Value.cells, List.toList_toArray]; rfl) ?_
        refine dr_keep (fun _ h => (h.wk [0, 1]).upto ⟨rfl, rfl, rfl, rfl, rfl, rfl, rfl, trivial⟩) ?_
        refine dg_q (i := 4) rfl (by kernel_rfl) (by kernel_rfl) (by kernel_rfl) [] (by kernel_rfl) (fun _ _ _ h => h) rfl rfl (by decide) (fun _ h => (h.wk [0, 1]).upto ⟨rfl, rfl, rfl, rfl, rfl, rfl, rfl, trivial⟩) (qt_assign rfl rfl) ?_
        refine dg_done (by kernel_rfl) ?_
        refine norm_then ?_
        refine at_retc ?_
        refine at_ret3 rfl (rvCelS (k := 0) rfl tys_impl_Pt rfl rfl) (rvCelS (k := 1) rfl tys_impl_Pt rfl rfl) (.tmp rfl) ?_
        intro w' hs
        exact ⟨by rw [sb_yes hB (by simp_all [allOk]), eL, eH], hs.fin⟩
theorem eqPt_self (p : Pn) (w : World) : Calls Try.prog 25 #[pV p, pV p] w fun e w' => e = .returned (.bool true) ∧ Over w w' := by
  refine (eqPt_any p.1 p.2 p.1 p.2 w).mono ?_
  rintro e w' ⟨rfl, h⟩
  exact ⟨by simp, h⟩
end Go.Proofs.Ytcplmmoeglembaa
