/- The law SnapEdge, walked. -/
import Derived.Test.YtakdjgldcpompaaPathL
namespace Go.Proofs.Ytakdjgldcpompaa
open Go Go.RowKit
set_option linter.unusedVariables false
set_option linter.unusedSimpArgs false
set_option maxRecDepth 100000
set_option maxHeartbeats 4000000
set_option linter.unusedVariables false
set_option linter.unusedSimpArgs false

theorem law_SnapEdge (x0 y0 : Int) (x1 y1 : Int) (A2 : Option Addr) (n2 c2_ : Nat) (xs2 : List (Int × Int)) (w : World) (h2 : Pts w A2 n2 xs2) (hm2 : (n2 : Int) ≤ 9223372036854775807) :
    Calls Try.prog 3 #[ptV x0 y0, ptV x1 y1, .slice A2 n2 c2_] w fun e w' => e = .returned (.bool true) ∧ Over w w' := by
  have hl2 := h2.1
  have hsm := snR_len (x0, y0) (x1, y1) xs2
  refine walk_from (m := 112) (Try.func3) rfl rfl (Nat.le_of_ble_eq_true rfl) ?_
  refine at_seq ?_
  refine at_region ?_
  refine at_op rfl ?_
  refine op_box rfl rfl (rfl) rfl (by decide) (fun b1 => ?_)
  refine at_rsE (by simp only [List.nil_append, List.cons_append, List.set_cons_zero, List.set_cons_succ, Value.cells, List.toList_toArray]; rfl) ?_
  refine at_op rfl ?_
  refine op_box rfl rfl (rfl) rfl (by decide) (fun b2 => ?_)
  refine at_rsE (by simp only [List.nil_append, List.cons_append, List.set_cons_zero, List.set_cons_succ, Value.cells, List.toList_toArray]; rfl) ?_
  refine at_q rfl rfl (by decide) (qt_assign rfl rfl) ?_
  refine at_end ?_
  refine at_seq ?_
  refine at_region ?_
  refine at_q rfl rfl (by decide) (qt_assign rfl rfl) ?_
  refine at_end ?_
  refine at_seq ?_
  refine at_region ?_
  refine at_q rfl rfl (by decide) (qt_move rfl rfl) ?_
  refine at_q rfl rfl (by decide) (qt_move rfl rfl) ?_
  refine at_q rfl rfl (by decide) (qt_call ok_laws_szPtS rfl rfl (fun w1 hs => Calls.still (szPtS_any A2 n2 c2_ 1048576 w1 (by omega) (by omega) hm2))) ?_
  refine at_q rfl rfl (by decide) (qt_assign rfl rfl) ?_
  refine at_end ?_
  refine at_seq ?_
  refine at_seq ?_
  refine at_region ?_
  refine at_q rfl rfl (by decide) (qt_move rfl rfl) ?_
  refine at_q rfl rfl (by decide) (qt_lss rfl rfl rfl) ?_
  refine at_end ?_
  refine at_cond rfl (fun c1 => ?_) (fun c1 => ?_)
  · try simp only [decide_eq_true_eq, decide_eq_false_iff_not, beq_iff_eq, beq_eq_false_iff_ne, Bool.not_eq_true', Bool.not_eq_false', Bool.not_true, Bool.not_false, Int.not_lt, Int.not_le, ne_eq, Nat.not_lt, Nat.not_le] at c1
    refine at_seq ?_
    refine at_region ?_
    refine at_q rfl rfl (by decide) (qt_assign rfl rfl) ?_
    refine at_end ?_
    refine at_retc ?_
    refine then_ret ?_
    refine at_ret1 rfl (.tmp rfl) ?_
    intro w' hs
    exact ⟨rfl, hs.fin⟩
  · try simp only [decide_eq_true_eq, decide_eq_false_iff_not, beq_iff_eq, beq_eq_false_iff_ne, Bool.not_eq_true', Bool.not_eq_false', Bool.not_true, Bool.not_false, Int.not_lt, Int.not_le, ne_eq, Nat.not_lt, Nat.not_le] at c1
    obtain ⟨ht2, et2⟩ := szV_okk c1
    rw [et2]
    replace ht2 : (n2 : Int) ≤ 1048576 := (by omega)
    clear hm2 et2
    refine at_skip ?_
    refine norm_then ?_
    refine at_seq ?_
    refine dg_start mixed rfl ?_
    refine dg_phase 12 ?_
    refine dg_q (i := 0) rfl (by kernel_rfl) (by kernel_rfl) (by kernel_rfl) [] (by kernel_rfl) (fun _ _ _ h => h) rfl rfl (by decide) (fun _ h => h.upto ⟨rfl, rfl, trivial⟩) (qt_loadS rfl rfl tys_laws_Pt rfl (rdAll (k := 0) rfl)) ?_
    refine dg_q (i := 1) rfl (by kernel_rfl) (by kernel_rfl) (by kernel_rfl) [] (by kernel_rfl) (fun _ _ _ h => h) rfl rfl (by decide) (fun _ h => h.upto ⟨rfl, rfl, trivial⟩) (qt_call ok_laws_toPt rfl rfl (fun w1 hs => toPt_any x0 y0 w1)) ?_
    refine dg_q (i := 2) rfl (by kernel_rfl) (by kernel_rfl) (by kernel_rfl) [] (by kernel_rfl) (fun _ _ _ h => h) rfl rfl (by decide) (fun _ h => h.upto ⟨rfl, rfl, trivial⟩) (qt_loadS rfl rfl tys_laws_Pt rfl (rdAll (k := 1) rfl)) ?_
    refine dg_q (i := 3) rfl (by kernel_rfl) (by kernel_rfl) (by kernel_rfl) [] (by kernel_rfl) (fun _ _ _ h => h) rfl rfl (by decide) (fun _ h => h.upto ⟨rfl, rfl, trivial⟩) (qt_call ok_laws_toPt rfl rfl (fun w1 hs => toPt_any x1 y1 w1)) ?_
    refine dg_q (i := 4) rfl (by kernel_rfl) (by kernel_rfl) (by kernel_rfl) [] (by kernel_rfl) (fun _ _ _ h => h) rfl rfl (by decide) (fun _ h => h.upto ⟨rfl, rfl, trivial⟩) (qt_move rfl rfl) ?_
    refine dg_one (i := 5) rfl (by decide) (by kernel_rfl) rfl ?_
    refine op_call ok_laws_toPtS (X := Nat × Nat × Nat) (v := fun x => .slice (some ⟨x.1, 0, none⟩) n2 n2) (r := fun x => ptsR n2 xs2 x.2.1 x.2.2 (some ⟨x.1, 0, none⟩)) (H := fun _ => True) rfl rfl rfl (by decide) (fun w1 hs => ptsPtS A2 n2 c2_ xs2 w1 (h2.over hs.fin) ht2) ?_
    rintro ⟨g5_5, lo5_5, hi5_5⟩ -
    refine at_rsE (by simp only [List.nil_append, List.cons_append, List.set_cons_zero, List.set_cons_succ, Value.cells, List.toList_toArray]; rfl) ?_
    refine dr_more (fun _ h => h.upto ⟨rfl, rfl, trivial⟩) ?_
    refine dg_one (i := 6) rfl (by decide) (by kernel_rfl) rfl ?_
    refine op_call ok_spec_SnapEdge (X := (Option Addr × Nat) × Nat × Nat) (v := fun x => .tuple #[.slice x.1.1 _ x.1.2, .int .i64 _]) (r := fun x => ptsR _ _ x.2.1 x.2.2 x.1.1) (H := fun _ => True) rfl rfl rfl (by decide) (fun w1 hs => slcCode (specSnapEdge_any (x0, y0) (x1, y1) _ n2 n2 xs2 w1 (ptsPts (k := 2) rfl w1 hs) ht2)) ?_
    rintro ⟨⟨A5_6, c5_6_⟩, lo5_6, hi5_6⟩ -
    refine at_rsE (by simp only [List.nil_append, List.cons_append, List.set_cons_zero, List.set_cons_succ, Value.cells, List.toList_toArray]; rfl) ?_
    refine dr_more (fun _ h => h.upto ⟨rfl, rfl, rfl, trivial⟩) ?_
    refine dg_q (i := 7) rfl (by kernel_rfl) (by kernel_rfl) (by kernel_rfl) [] (by kernel_rfl) (fun _ _ _ h => h) rfl rfl (by decide) (fun _ h => h.upto ⟨rfl, rfl, rfl, rfl, trivial⟩) (qt_move rfl rfl) ?_
    refine dg_q (i := 8) rfl (by kernel_rfl) (by kernel_rfl) (by kernel_rfl) [] (by kernel_rfl) (fun _ _ _ h => h) rfl rfl (by decide) (fun _ h => h.upto ⟨rfl, rfl, rfl, rfl, trivial⟩) (qt_extract rfl rfl rfl) ?_
    refine dg_q (i := 9) rfl (by kernel_rfl) (by kernel_rfl) (by kernel_rfl) [] (by kernel_rfl) (fun _ _ _ h => h) rfl rfl (by decide) (fun _ h => h.upto ⟨rfl, rfl, rfl, rfl, trivial⟩) (qt_extract rfl rfl rfl) ?_
    refine dg_q (i := 10) rfl (by kernel_rfl) (by kernel_rfl) (by kernel_rfl) [] (by kernel_rfl) (fun _ _ _ h => h) rfl rfl (by decide) (fun _ h => h.upto ⟨rfl, rfl, rfl, rfl, trivial⟩) (qt_assign rfl rfl) ?_
    refine dg_q (i := 11) rfl (by kernel_rfl) (by kernel_rfl) (by kernel_rfl) [] (by kernel_rfl) (fun _ _ _ h => h) rfl rfl (by decide) (fun _ h => h.upto ⟨rfl, rfl, rfl, rfl, trivial⟩) (qt_assign rfl rfl) ?_
    refine dg_done (by kernel_rfl) ?_
    refine norm_then ?_
    refine at_seq ?_
    refine at_region ?_
    refine at_q rfl rfl (by decide) (qt_move rfl rfl) ?_
    refine at_op rfl ?_
    refine op_call ok_laws_toPtS (X := Nat × Nat × Nat) (v := fun x => .slice (some ⟨x.1, 0, none⟩) n2 n2) (r := fun x => ptsR n2 xs2 x.2.1 x.2.2 (some ⟨x.1, 0, none⟩)) (H := fun _ => True) rfl rfl rfl (by decide) (fun w1 hs => ptsPtS A2 n2 c2_ xs2 w1 (h2.over hs.fin) ht2) ?_
    rintro ⟨g6_1, lo6_1, hi6_1⟩ -
    refine at_rsE (by simp only [List.nil_append, List.cons_append, List.set_cons_zero, List.set_cons_succ, Value.cells, List.toList_toArray]; rfl) ?_
    refine at_q rfl rfl (by decide) (qt_assign rfl rfl) ?_
    refine at_end ?_
    refine at_seq ?_
    refine dg_start mixed rfl ?_
    refine dg_phase 11 ?_
    refine dg_q (i := 0) rfl (by kernel_rfl) (by kernel_rfl) (by kernel_rfl) [] (by kernel_rfl) (fun _ _ _ h => h) rfl rfl (by decide) (fun _ h => h.upto ⟨rfl, rfl, rfl, rfl, rfl, trivial⟩) (qt_loadS rfl rfl tys_laws_Pt rfl (rdAll (k := 0) rfl)) ?_
    refine dg_q (i := 1) rfl (by kernel_rfl) (by kernel_rfl) (by kernel_rfl) [] (by kernel_rfl) (fun _ _ _ h => h) rfl rfl (by decide) (fun _ h => h.upto ⟨rfl, rfl, rfl, rfl, rfl, trivial⟩) (qt_call ok_laws_toPt rfl rfl (fun w1 hs => toPt_any x0 y0 w1)) ?_
    refine dg_q (i := 2) rfl (by kernel_rfl) (by kernel_rfl) (by kernel_rfl) [] (by kernel_rfl) (fun _ _ _ h => h) rfl rfl (by decide) (fun _ h => h.upto ⟨rfl, rfl, rfl, rfl, rfl, trivial⟩) (qt_loadS rfl rfl tys_laws_Pt rfl (rdAll (k := 1) rfl)) ?_
    refine dg_q (i := 3) rfl (by kernel_rfl) (by kernel_rfl) (by kernel_rfl) [] (by kernel_rfl) (fun _ _ _ h => h) rfl rfl (by decide) (fun _ h => h.upto ⟨rfl, rfl, rfl, rfl, rfl, trivial⟩) (qt_call ok_laws_toPt rfl rfl (fun w1 hs => toPt_any x1 y1 w1)) ?_
    refine dg_q (i := 4) rfl (by kernel_rfl) (by kernel_rfl) (by kernel_rfl) [] (by kernel_rfl) (fun _ _ _ h => h) rfl rfl (by decide) (fun _ h => h.upto ⟨rfl, rfl, rfl, rfl, rfl, trivial⟩) (qt_move rfl rfl) ?_
    refine dg_one (i := 5) rfl (by decide) (by kernel_rfl) rfl ?_
    refine op_call ok_impl_SnapEdge (X := (Option Addr × Nat) × Nat × Nat) (v := fun x => .tuple #[.slice x.1.1 _ x.1.2, .int .i64 _]) (r := fun x => ptsR _ _ x.2.1 x.2.2 x.1.1) (H := fun _ => True) rfl rfl rfl (by decide) (fun w1 hs => slcCode (SnapEdge_any (x0, y0) (x1, y1) _ n2 n2 xs2 w1 (ptsPts (k := 4) rfl w1 hs) ht2 (Nat.le_refl _))) ?_
    rintro ⟨⟨A7_5, c7_5_⟩, lo7_5, hi7_5⟩ -
    refine at_rsE (by simp only [List.nil_append, List.cons_append, List.set_cons_zero, List.set_cons_succ, Value.cells, List.toList_toArray]; rfl) ?_
    refine dr_more (fun _ h => h.upto ⟨rfl, rfl, rfl, rfl, rfl, trivial⟩) ?_
    refine dg_q (i := 6) rfl (by kernel_rfl) (by kernel_rfl) (by kernel_rfl) [] (by kernel_rfl) (fun _ _ _ h => h) rfl rfl (by decide) (fun _ h => h.upto ⟨rfl, rfl, rfl, rfl, rfl, rfl, trivial⟩) (qt_move rfl rfl) ?_
    refine dg_q (i := 7) rfl (by kernel_rfl) (by kernel_rfl) (by kernel_rfl) [] (by kernel_rfl) (fun _ _ _ h => h) rfl rfl (by decide) (fun _ h => h.upto ⟨rfl, rfl, rfl, rfl, rfl, rfl, trivial⟩) (qt_extract rfl rfl rfl) ?_
    refine dg_q (i := 8) rfl (by kernel_rfl) (by kernel_rfl) (by kernel_rfl) [] (by kernel_rfl) (fun _ _ _ h => h) rfl rfl (by decide) (fun _ h => h.upto ⟨rfl, rfl, rfl, rfl, rfl, rfl, trivial⟩) (qt_extract rfl rfl rfl) ?_
    refine dg_q (i := 9) rfl (by kernel_rfl) (by kernel_rfl) (by kernel_rfl) [] (by kernel_rfl) (fun _ _ _ h => h) rfl rfl (by decide) (fun _ h => h.upto ⟨rfl, rfl, rfl, rfl, rfl, rfl, trivial⟩) (qt_assign rfl rfl) ?_
    refine dg_q (i := 10) rfl (by kernel_rfl) (by kernel_rfl) (by kernel_rfl) [] (by kernel_rfl) (fun _ _ _ h => h) rfl rfl (by decide) (fun _ h => h.upto ⟨rfl, rfl, rfl, rfl, rfl, rfl, trivial⟩) (qt_assign rfl rfl) ?_
    refine dg_done (by kernel_rfl) ?_
    refine norm_then ?_
    refine at_seq ?_
    refine at_seq ?_
    refine at_region ?_
    refine at_q rfl rfl (by decide) (qt_move rfl rfl) ?_
    refine at_q rfl rfl (by decide) (qt_move rfl rfl) ?_
    refine at_q rfl rfl (by decide) (qt_call ok_laws_eqPtS rfl rfl (fun w1 hs => eqPtS_same _ _ _ _ _ (snR (x0, y0) (x1, y1) xs2) w1 (ptsPts (k := 5) rfl w1 hs) (ptsPts (k := 3) rfl w1 hs) (by omega))) ?_
    refine at_q rfl rfl (by decide) (qt_not rfl rfl) ?_
    refine at_q rfl rfl (by decide) (qt_move rfl rfl) ?_
    refine at_as 48 (.bool false) rfl (by rw [notTrue]) ?_
    refine at_on rfl rfl rfl rfl ?_
    refine op_q rfl (by decide) (qt_move rfl rfl) ?_
    refine at_on rfl rfl rfl rfl ?_
    refine op_q rfl (by decide) (qt_move rfl rfl) ?_
    refine at_on rfl rfl rfl rfl ?_
    refine op_q rfl (by decide) (qt_neq rfl rfl rfl) ?_
    refine at_q rfl rfl (by decide) (qt_pickF rfl rfl rfl) ?_
    refine at_end ?_
    refine at_no rfl (neSelf _) ?_
    refine at_skip ?_
    refine norm_then ?_
    refine at_seq ?_
    refine at_seq ?_
    refine at_region ?_
    refine at_q rfl rfl (by decide) (qt_move rfl rfl) ?_
    refine at_q rfl rfl (by decide) (qt_move rfl rfl) ?_
    refine at_op rfl ?_
    refine op_call ok_laws_toPtS (X := Nat × Nat × Nat) (v := fun x => .slice (some ⟨x.1, 0, none⟩) n2 n2) (r := fun x => ptsR n2 xs2 x.2.1 x.2.2 (some ⟨x.1, 0, none⟩)) (H := fun _ => True) rfl rfl rfl (by decide) (fun w1 hs => ptsPtS A2 n2 c2_ xs2 w1 (h2.over hs.fin) ht2) ?_
    rintro ⟨g10_2, lo10_2, hi10_2⟩ -
    refine at_rsE (by simp only [List.nil_append, List.cons_append, List.set_cons_zero, List.set_cons_succ, Value.cells, List.toList_toArray]; rfl) ?_
    refine at_q rfl rfl (by decide) (qt_call ok_laws_eqPtS rfl rfl (fun w1 hs => eqPtS_same _ _ _ _ _ xs2 w1 (ptsPts (k := 4) rfl w1 hs) (ptsPts (k := 6) rfl w1 hs) ht2)) ?_
    refine at_q rfl rfl (by decide) (qt_not rfl rfl) ?_
    refine at_end ?_
    refine at_no rfl (rfl) ?_
    refine at_skip ?_
    refine norm_then ?_
    refine at_seq ?_
    refine at_region ?_
    refine at_q rfl rfl (by decide) (qt_assign rfl rfl) ?_
    refine at_end ?_
    refine at_seq ?_
    refine at_region ?_
    refine at_q rfl rfl (by decide) (qt_move rfl rfl) ?_
    refine at_q rfl rfl (by decide) (qt_move rfl rfl) ?_
    refine at_op rfl ?_
    refine op_callw (k := 4) (r' := ptsR n2 (marks _ n2) _ _ _) ok_laws_markPtS rfl rfl rfl (by decide) rfl (fun w1 hs => markSlcM _ (ptsS (k := 4) rfl w1 hs) (ptsH (k := 4) rfl w1 hs) (by omega) (by omega)) (fun _ h => h) rfl ?_
    refine at_rsE (by simp only [List.nil_append, List.cons_append, List.set_cons_zero, List.set_cons_succ, Value.cells, List.toList_toArray]; rfl) ?_
    refine at_q rfl rfl (by decide) (qt_assign rfl rfl) ?_
    refine at_end ?_
    refine at_seq ?_
    refine at_seq ?_
    refine at_region ?_
    refine at_q rfl rfl (by decide) (qt_move rfl rfl) ?_
    refine at_q rfl rfl (by decide) (qt_lss rfl rfl rfl) ?_
    refine at_q rfl rfl (by decide) (qt_move rfl rfl) ?_
    refine at_as 63 (.bool false) rfl (by rw [(posF _)]) ?_
    refine at_on rfl rfl rfl rfl ?_
    refine op_q rfl (by decide) (qt_move rfl rfl) ?_
    refine at_on rfl rfl rfl rfl ?_
    refine op_q rfl (by decide) (qt_move rfl rfl) ?_
    refine at_on rfl rfl rfl rfl ?_
    refine op_q rfl (by decide) (qt_call ok_laws_eqPtS rfl rfl (fun w1 hs => eqPtS_same _ _ _ _ _ (snR (x0, y0) (x1, y1) xs2) w1 (ptsPts (k := 5) rfl w1 hs) (ptsPts (k := 3) rfl w1 hs) (by omega))) ?_
    refine at_on rfl rfl rfl rfl ?_
    refine op_q rfl (by decide) (qt_not rfl rfl) ?_
    refine at_q rfl rfl (by decide) (qt_pickF rfl rfl rfl) ?_
    refine at_q rfl rfl (by decide) (qt_move rfl rfl) ?_
    refine at_as 69 (.bool false) rfl (by rw [notTrue]) ?_
    refine at_on rfl rfl rfl rfl ?_
    refine op_q rfl (by decide) (qt_move rfl rfl) ?_
    refine at_on rfl rfl rfl rfl ?_
    refine op_q rfl (by decide) (qt_move rfl rfl) ?_
    refine at_on rfl rfl rfl rfl ?_
    refine op_q rfl (by decide) (qt_neq rfl rfl rfl) ?_
    refine at_q rfl rfl (by decide) (qt_pickF rfl rfl rfl) ?_
    refine at_end ?_
    refine at_no rfl (neSelf _) ?_
    refine at_skip ?_
    refine norm_then ?_
    refine at_seq ?_
    refine at_region ?_
    refine at_q rfl rfl (by decide) (qt_assign rfl rfl) ?_
    refine at_end ?_
    refine at_seq ?_
    refine at_region ?_
    refine at_q rfl rfl (by decide) (qt_move rfl rfl) ?_
    refine at_q rfl rfl (by decide) (qt_move rfl rfl) ?_
    refine at_op rfl ?_
    refine op_callw (k := 5) (r' := ptsR _ (marks 1 _) _ _ _) ok_laws_markPtS rfl rfl rfl (by decide) rfl (fun w1 hs => markSlcM 1 (ptsS (k := 5) rfl w1 hs) (ptsH (k := 5) rfl w1 hs) (by omega) (by omega)) (fun _ h => h) rfl ?_
    refine at_rsE (by simp only [List.nil_append, List.cons_append, List.set_cons_zero, List.set_cons_succ, Value.cells, List.toList_toArray]; rfl) ?_
    refine at_q rfl rfl (by decide) (qt_assign rfl rfl) ?_
    refine at_end ?_
    refine at_seq ?_
    refine at_region ?_
    refine at_q rfl rfl (by decide) (qt_assign rfl rfl) ?_
    refine at_end ?_
    refine at_seq ?_
    refine at_region ?_
    refine at_q rfl rfl (by decide) (qt_move rfl rfl) ?_
    refine at_q rfl rfl (by decide) (qt_move rfl rfl) ?_
    refine at_q rfl rfl (by decide) (qt_call ok_laws_heldPtS rfl rfl (fun w1 hs => heldPtS_any _ _ _ 1 w1 (ptsPts (k := 5) rfl w1 hs) (by omega) (by omega))) ?_
    refine at_q rfl rfl (by decide) (qt_assign rfl rfl) ?_
    refine at_end ?_
    refine at_seq ?_
    refine at_seq ?_
    refine at_region ?_
    refine at_q rfl rfl (by decide) (qt_move rfl rfl) ?_
    refine at_q rfl rfl (by decide) (qt_lss rfl rfl rfl) ?_
    refine at_end ?_
    refine at_no rfl (posF _) ?_
    refine at_skip ?_
    refine norm_then ?_
    refine at_seq ?_
    refine at_seq ?_
    refine at_region ?_
    refine at_q rfl rfl (by decide) (qt_move rfl rfl) ?_
    refine at_q rfl rfl (by decide) (qt_move rfl rfl) ?_
    refine at_q rfl rfl (by decide) (qt_neq rfl rfl rfl) ?_
    refine at_end ?_
    refine at_no rfl (neSelf _) ?_
    refine at_skip ?_
    refine norm_then ?_
    refine at_seq ?_
    refine dg_start mixed rfl ?_
    refine dg_phase 12 ?_
    refine dg_q (i := 0) rfl (by kernel_rfl) (by kernel_rfl) (by kernel_rfl) [] (by kernel_rfl) (fun _ _ _ h => h) rfl rfl (by decide) (fun _ h => h.upto ⟨rfl, rfl, rfl, rfl, rfl, rfl, rfl, trivial⟩) (qt_loadS rfl rfl tys_laws_Pt rfl (rdAll (k := 0) rfl)) ?_
    refine dg_q (i := 1) rfl (by kernel_rfl) (by kernel_rfl) (by kernel_rfl) [] (by kernel_rfl) (fun _ _ _ h => h) rfl rfl (by decide) (fun _ h => h.upto ⟨rfl, rfl, rfl, rfl, rfl, rfl, rfl, trivial⟩) (qt_call ok_laws_toPt rfl rfl (fun w1 hs => toPt_any x0 y0 w1)) ?_
    refine dg_q (i := 2) rfl (by kernel_rfl) (by kernel_rfl) (by kernel_rfl) [] (by kernel_rfl) (fun _ _ _ h => h) rfl rfl (by decide) (fun _ h => h.upto ⟨rfl, rfl, rfl, rfl, rfl, rfl, rfl, trivial⟩) (qt_loadS rfl rfl tys_laws_Pt rfl (rdAll (k := 1) rfl)) ?_
    refine dg_q (i := 3) rfl (by kernel_rfl) (by kernel_rfl) (by kernel_rfl) [] (by kernel_rfl) (fun _ _ _ h => h) rfl rfl (by decide) (fun _ h => h.upto ⟨rfl, rfl, rfl, rfl, rfl, rfl, rfl, trivial⟩) (qt_call ok_laws_toPt rfl rfl (fun w1 hs => toPt_any x1 y1 w1)) ?_
    refine dg_q (i := 4) rfl (by kernel_rfl) (by kernel_rfl) (by kernel_rfl) [] (by kernel_rfl) (fun _ _ _ h => h) rfl rfl (by decide) (fun _ h => h.upto ⟨rfl, rfl, rfl, rfl, rfl, rfl, rfl, trivial⟩) (qt_move rfl rfl) ?_
    refine dg_one (i := 5) rfl (by decide) (by kernel_rfl) rfl ?_
    refine op_call ok_laws_toPtS (X := Nat × Nat × Nat) (v := fun x => .slice (some ⟨x.1, 0, none⟩) n2 n2) (r := fun x => ptsR n2 xs2 x.2.1 x.2.2 (some ⟨x.1, 0, none⟩)) (H := fun _ => True) rfl rfl rfl (by decide) (fun w1 hs => ptsPtS A2 n2 c2_ xs2 w1 (h2.over hs.fin) ht2) ?_
    rintro ⟨g24_5, lo24_5, hi24_5⟩ -
    refine at_rsE (by simp only [List.nil_append, List.cons_append, List.set_cons_zero, List.set_cons_succ, Value.cells, List.toList_toArray]; rfl) ?_
    refine dr_more (fun _ h => h.upto ⟨rfl, rfl, rfl, rfl, rfl, rfl, rfl, trivial⟩) ?_
    refine dg_one (i := 6) rfl (by decide) (by kernel_rfl) rfl ?_
    refine op_call ok_impl_SnapEdge (X := (Option Addr × Nat) × Nat × Nat) (v := fun x => .tuple #[.slice x.1.1 _ x.1.2, .int .i64 _]) (r := fun x => ptsR _ _ x.2.1 x.2.2 x.1.1) (H := fun _ => True) rfl rfl rfl (by decide) (fun w1 hs => slcCode (SnapEdge_any (x0, y0) (x1, y1) _ n2 n2 xs2 w1 (ptsPts (k := 7) rfl w1 hs) ht2 (Nat.le_refl _))) ?_
    rintro ⟨⟨A24_6, c24_6_⟩, lo24_6, hi24_6⟩ -
    refine at_rsE (by simp only [List.nil_append, List.cons_append, List.set_cons_zero, List.set_cons_succ, Value.cells, List.toList_toArray]; rfl) ?_
    refine dr_more (fun _ h => h.upto ⟨rfl, rfl, rfl, rfl, rfl, rfl, rfl, rfl, trivial⟩) ?_
    refine dg_q (i := 7) rfl (by kernel_rfl) (by kernel_rfl) (by kernel_rfl) [] (by kernel_rfl) (fun _ _ _ h => h) rfl rfl (by decide) (fun _ h => h.upto ⟨rfl, rfl, rfl, rfl, rfl, rfl, rfl, rfl, rfl, trivial⟩) (qt_move rfl rfl) ?_
    refine dg_q (i := 8) rfl (by kernel_rfl) (by kernel_rfl) (by kernel_rfl) [] (by kernel_rfl) (fun _ _ _ h => h) rfl rfl (by decide) (fun _ h => h.upto ⟨rfl, rfl, rfl, rfl, rfl, rfl, rfl, rfl, rfl, trivial⟩) (qt_extract rfl rfl rfl) ?_
    refine dg_q (i := 9) rfl (by kernel_rfl) (by kernel_rfl) (by kernel_rfl) [] (by kernel_rfl) (fun _ _ _ h => h) rfl rfl (by decide) (fun _ h => h.upto ⟨rfl, rfl, rfl, rfl, rfl, rfl, rfl, rfl, rfl, trivial⟩) (qt_extract rfl rfl rfl) ?_
    refine dg_q (i := 10) rfl (by kernel_rfl) (by kernel_rfl) (by kernel_rfl) [] (by kernel_rfl) (fun _ _ _ h => h) rfl rfl (by decide) (fun _ h => h.upto ⟨rfl, rfl, rfl, rfl, rfl, rfl, rfl, rfl, rfl, trivial⟩) (qt_assign rfl rfl) ?_
    refine dg_q (i := 11) rfl (by kernel_rfl) (by kernel_rfl) (by kernel_rfl) [] (by kernel_rfl) (fun _ _ _ h => h) rfl rfl (by decide) (fun _ h => h.upto ⟨rfl, rfl, rfl, rfl, rfl, rfl, rfl, rfl, rfl, trivial⟩) (qt_assign rfl rfl) ?_
    refine dg_done (by kernel_rfl) ?_
    refine norm_then ?_
    refine at_seq ?_
    refine at_seq ?_
    refine at_region ?_
    refine at_q rfl rfl (by decide) (qt_move rfl rfl) ?_
    refine at_q rfl rfl (by decide) (qt_move rfl rfl) ?_
    refine at_q rfl rfl (by decide) (qt_call ok_laws_eqPtS rfl rfl (fun w1 hs => eqPtS_same _ _ _ _ _ (snR (x0, y0) (x1, y1) xs2) w1 (ptsPts (k := 8) rfl w1 hs) (ptsPts (k := 3) rfl w1 hs) (by omega))) ?_
    refine at_q rfl rfl (by decide) (qt_not rfl rfl) ?_
    refine at_q rfl rfl (by decide) (qt_move rfl rfl) ?_
    refine at_as 99 (.bool false) rfl (by rw [notTrue]) ?_
    refine at_on rfl rfl rfl rfl ?_
    refine op_q rfl (by decide) (qt_move rfl rfl) ?_
    refine at_on rfl rfl rfl rfl ?_
    refine op_q rfl (by decide) (qt_move rfl rfl) ?_
    refine at_on rfl rfl rfl rfl ?_
    refine op_q rfl (by decide) (qt_neq rfl rfl rfl) ?_
    refine at_q rfl rfl (by decide) (qt_pickF rfl rfl rfl) ?_
    refine at_end ?_
    refine at_no rfl (neSelf _) ?_
    refine at_skip ?_
    refine norm_then ?_
    refine at_seq ?_
    refine at_region ?_
    refine at_q rfl rfl (by decide) (qt_assign rfl rfl) ?_
    refine at_end ?_
    refine at_seq ?_
    refine at_region ?_
    refine at_q rfl rfl (by decide) (qt_move rfl rfl) ?_
    refine at_q rfl rfl (by decide) (qt_move rfl rfl) ?_
    refine at_q rfl rfl (by decide) (qt_call ok_laws_heldPtS rfl rfl (fun w1 hs => heldPtS_any _ _ _ 1 w1 (ptsPts (k := 5) rfl w1 hs) (by omega) (by omega))) ?_
    refine at_q rfl rfl (by decide) (qt_assign rfl rfl) ?_
    refine at_end ?_
    refine at_seq ?_
    refine at_seq ?_
    refine at_region ?_
    refine at_q rfl rfl (by decide) (qt_move rfl rfl) ?_
    refine at_q rfl rfl (by decide) (qt_lss rfl rfl rfl) ?_
    refine at_end ?_
    refine at_no rfl (posF _) ?_
    refine at_skip ?_
    refine norm_then ?_
    refine at_seq ?_
    refine at_seq ?_
    refine at_region ?_
    refine at_q rfl rfl (by decide) (qt_move rfl rfl) ?_
    refine at_q rfl rfl (by decide) (qt_move rfl rfl) ?_
    refine at_q rfl rfl (by decide) (qt_neq rfl rfl rfl) ?_
    refine at_end ?_
    refine at_no rfl (neSelf _) ?_
    refine at_skip ?_
    refine norm_then ?_
    refine at_seq ?_
    refine at_region ?_
    refine at_q rfl rfl (by decide) (qt_assign rfl rfl) ?_
    refine at_end ?_
    refine at_retc ?_
    refine at_ret1 rfl (.tmp rfl) ?_
    intro w' hs
    exact ⟨rfl, hs.fin⟩
end Go.Proofs.Ytakdjgldcpompaa
