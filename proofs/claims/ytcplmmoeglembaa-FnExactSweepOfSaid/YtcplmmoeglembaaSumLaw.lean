/- The laws MinkowskiSum and SweepOf, walked. -/
import Derived.Test.YtcplmmoeglembaaSweep
namespace Go.Proofs.Ytcplmmoeglembaa
open Go Go.RowKit
set_option linter.unusedVariables false
set_option linter.unusedSimpArgs false
set_option maxRecDepth 100000
set_option maxHeartbeats 4000000
set_option linter.unusedVariables false
set_option linter.unusedSimpArgs false

theorem law_MinkowskiSum (A0 : Option Addr) (n0 c0_ : Nat) (xs0 : List (Int × Int)) (A1 : Option Addr) (n1 c1_ : Nat) (xs1 : List (Int × Int)) (w : World) (h0 : Pts w A0 n0 xs0) (hm0 : (n0 : Int) ≤ 9223372036854775807) (h1 : Pts w A1 n1 xs1) (hm1 : (n1 : Int) ≤ 9223372036854775807) :
    Calls Try.prog 6 #[.slice A0 n0 c0_, .slice A1 n1 c1_] w fun e w' => e = .returned (.bool true) ∧ Over w w' := by
  have hl0 := h0.1
  have hl1 := h1.1
  have hsm := mk_len xs0 xs1
  refine walk_from (m := 119) (Try.func6) rfl rfl (Nat.le_of_ble_eq_true rfl) ?_
  refine at_seq ?_
  refine at_region ?_
  refine at_q rfl rfl (by decide) (qt_assign rfl rfl) ?_
  refine at_end ?_
  refine at_seq ?_
  refine at_region ?_
  refine at_q rfl rfl (by decide) (qt_assign rfl rfl) ?_
  refine at_end ?_
  refine at_seq ?_
  refine at_region ?_
  refine at_q rfl rfl (by decide) (qt_move rfl rfl) ?_
  refine at_q rfl rfl (by decide) (qt_move rfl rfl) ?_
  refine at_q rfl rfl (by decide) (qt_call ok_laws_szPtS rfl rfl (fun w1 hs => Calls.still (szPtS_any A0 n0 c0_ 1048576 w1 (by omega) (by omega) hm0))) ?_
  refine at_q rfl rfl (by decide) (qt_assign rfl rfl) ?_
  refine at_end ?_
  refine at_seq ?_
  refine at_seq ?_
  refine at_region ?_
  refine at_q rfl rfl (by decide) (qt_move rfl rfl) ?_
  refine at_q rfl rfl (by decide) (qt_lss rfl rfl rfl) ?_
  refine at_end ?_
  refine at_cond rfl (fun c1 => ?_) (fun c1 => ?_)
  · try simp only [decide_eq_true_eq, decide_eq_false_iff_not, beq_iff_eq, beq_eq_false_iff_ne, Bool.not_eq_true', Bool.not_eq_false', Bool.not_true, Bool.not_false, Int.not_lt, Int.not_le, ne_eq, Nat.not_lt, Nat.not_le] at c1
    refine at_seq ?_
    refine at_region ?_
    refine at_q rfl rfl (by decide) (qt_assign rfl rfl) ?_
    refine at_end ?_
    refine at_retc ?_
    refine then_ret ?_
    refine at_ret1 rfl (.tmp rfl) ?_
    intro w' hs
    exact ⟨rfl, hs.fin⟩
  · try simp only [decide_eq_true_eq, decide_eq_false_iff_not, beq_iff_eq, beq_eq_false_iff_ne, Bool.not_eq_true', Bool.not_eq_false', Bool.not_true, Bool.not_false, Int.not_lt, Int.not_le, ne_eq, Nat.not_lt, Nat.not_le] at c1
    obtain ⟨ht0, et0⟩ := szV_okk c1
    rw [et0]
    replace ht0 : (n0 : Int) ≤ 1048576 := (by omega)
    clear hm0 et0
    refine at_skip ?_
    refine norm_then ?_
    refine at_seq ?_
    refine at_region ?_
    refine at_q rfl rfl (by decide) (qt_move rfl rfl) ?_
    refine at_q rfl rfl (by decide) (qt_move rfl rfl) ?_
    refine at_q rfl rfl (by decide) (qt_call ok_laws_szPtS rfl rfl (fun w1 hs => Calls.still (szPtS_any A1 n1 c1_ _ w1 (by omega) (by omega) hm1))) ?_
    refine at_q rfl rfl (by decide) (qt_assign rfl rfl) ?_
    refine at_end ?_
    refine at_seq ?_
    refine at_seq ?_
    refine at_region ?_
    refine at_q rfl rfl (by decide) (qt_move rfl rfl) ?_
    refine at_q rfl rfl (by decide) (qt_lss rfl rfl rfl) ?_
    refine at_end ?_
    refine at_cond rfl (fun c2 => ?_) (fun c2 => ?_)
    · try simp only [decide_eq_true_eq, decide_eq_false_iff_not, beq_iff_eq, beq_eq_false_iff_ne, Bool.not_eq_true', Bool.not_eq_false', Bool.not_true, Bool.not_false, Int.not_lt, Int.not_le, ne_eq, Nat.not_lt, Nat.not_le] at c2
      refine at_seq ?_
      refine at_region ?_
      refine at_q rfl rfl (by decide) (qt_assign rfl rfl) ?_
      refine at_end ?_
      refine at_retc ?_
      refine then_ret ?_
      refine at_ret1 rfl (.tmp rfl) ?_
      intro w' hs
      exact ⟨rfl, hs.fin⟩
    · try simp only [decide_eq_true_eq, decide_eq_false_iff_not, beq_iff_eq, beq_eq_false_iff_ne, Bool.not_eq_true', Bool.not_eq_false', Bool.not_true, Bool.not_false, Int.not_lt, Int.not_le, ne_eq, Nat.not_lt, Nat.not_le] at c2
      obtain ⟨ht1, et1⟩ := szV_okk c2
      rw [et1]
      replace ht1 : (n1 : Int) ≤ 1048576 := (by omega)
      clear hm1 et1
      refine at_skip ?_
      refine norm_then ?_
      refine at_seq ?_
      refine at_region ?_
      refine at_q rfl rfl (by decide) (qt_move rfl rfl) ?_
      refine at_op rfl ?_
      refine op_call ok_laws_toPtS (X := Nat × Nat × Nat) (v := fun x => .slice (some ⟨x.1, 0, none⟩) n0 n0) (r := fun x => ptsR n0 xs0 x.2.1 x.2.2 (some ⟨x.1, 0, none⟩)) (H := fun _ => True) rfl rfl rfl (by decide) (fun w1 hs => ptsPtS A0 n0 c0_ xs0 w1 (h0.over hs.fin) ht0) ?_
      rintro ⟨g8_1, lo8_1, hi8_1⟩ -
      refine at_rsE (by simp only [List.nil_append, List.cons_append, List.set_cons_zero, List.set_cons_succ, Value.cells, List.toList_toArray]; rfl) ?_
      refine at_q rfl rfl (by decide) (qt_move rfl rfl) ?_
      refine at_op rfl ?_
      refine op_call ok_laws_toPtS (X := Nat × Nat × Nat) (v := fun x => .slice (some ⟨x.1, 0, none⟩) n1 n1) (r := fun x => ptsR n1 xs1 x.2.1 x.2.2 (some ⟨x.1, 0, none⟩)) (H := fun _ => True) rfl rfl rfl (by decide) (fun w1 hs => ptsPtS A1 n1 c1_ xs1 w1 (h1.over hs.fin) ht1) ?_
      rintro ⟨g8_3, lo8_3, hi8_3⟩ -
      refine at_rsE (by simp only [List.nil_append, List.cons_append, List.set_cons_zero, List.set_cons_succ, Value.cells, List.toList_toArray]; rfl) ?_
      refine at_op rfl ?_
      refine op_call ok_spec_MinkowskiSum (X := (Option Addr × Nat) × Nat × Nat) (v := fun x => .tuple #[.slice x.1.1 _ x.1.2, .int .i64 _]) (r := fun x => ptsR _ _ x.2.1 x.2.2 x.1.1) (H := fun _ => True) rfl rfl rfl (by decide) (fun w1 hs => slcCode (specMinkowskiSum_any _ n0 n0 xs0 _ n1 n1 xs1 w1 (ptsPts (k := 0) rfl w1 hs) (ptsPts (k := 1) rfl w1 hs) ht0 ht1)) ?_
      rintro ⟨⟨A8_4, c8_4_⟩, lo8_4, hi8_4⟩ -
      refine at_rsE (by simp only [List.nil_append, List.cons_append, List.set_cons_zero, List.set_cons_succ, Value.cells, List.toList_toArray]; rfl) ?_
      refine at_q rfl rfl (by decide) (qt_move rfl rfl) ?_
      refine at_q rfl rfl (by decide) (qt_extract rfl rfl rfl) ?_
      refine at_q rfl rfl (by decide) (qt_extract rfl rfl rfl) ?_
      refine at_q rfl rfl (by decide) (qt_assign rfl rfl) ?_
      refine at_q rfl rfl (by decide) (qt_assign rfl rfl) ?_
      refine at_end ?_
      refine at_seq ?_
      refine at_region ?_
      refine at_q rfl rfl (by decide) (qt_move rfl rfl) ?_
      refine at_op rfl ?_
      refine op_call ok_laws_toPtS (X := Nat × Nat × Nat) (v := fun x => .slice (some ⟨x.1, 0, none⟩) n0 n0) (r := fun x => ptsR n0 xs0 x.2.1 x.2.2 (some ⟨x.1, 0, none⟩)) (H := fun _ => True) rfl rfl rfl (by decide) (fun w1 hs => ptsPtS A0 n0 c0_ xs0 w1 (h0.over hs.fin) ht0) ?_
      rintro ⟨g9_1, lo9_1, hi9_1⟩ -
      refine at_rsE (by simp only [List.nil_append, List.cons_append, List.set_cons_zero, List.set_cons_succ, Value.cells, List.toList_toArray]; rfl) ?_
      refine at_q rfl rfl (by decide) (qt_assign rfl rfl) ?_
      refine at_end ?_
      refine at_seq ?_
      refine at_region ?_
      refine at_q rfl rfl (by decide) (qt_move rfl rfl) ?_
      refine at_op rfl ?_
      refine op_call ok_laws_toPtS (X := Nat × Nat × Nat) (v := fun x => .slice (some ⟨x.1, 0, none⟩) n1 n1) (r := fun x => ptsR n1 xs1 x.2.1 x.2.2 (some ⟨x.1, 0, none⟩)) (H := fun _ => True) rfl rfl rfl (by decide) (fun w1 hs => ptsPtS A1 n1 c1_ xs1 w1 (h1.over hs.fin) ht1) ?_
      rintro ⟨g10_1, lo10_1, hi10_1⟩ -
      refine at_rsE (by simp only [List.nil_append, List.cons_append, List.set_cons_zero, List.set_cons_succ, Value.cells, List.toList_toArray]; rfl) ?_
      refine at_q rfl rfl (by decide) (qt_assign rfl rfl) ?_
      refine at_end ?_
      refine at_seq ?_
      refine at_region ?_
      refine at_q rfl rfl (by decide) (qt_move rfl rfl) ?_
      refine at_q rfl rfl (by decide) (qt_move rfl rfl) ?_
      refine at_op rfl ?_
      refine op_call ok_impl_MinkowskiSum (X := (Option Addr × Nat) × Nat × Nat) (v := fun x => .tuple #[.slice x.1.1 _ x.1.2, .int .i64 _]) (r := fun x => ptsR _ _ x.2.1 x.2.2 x.1.1) (H := fun _ => True) rfl rfl rfl (by decide) (fun w1 hs => slcCode (MinkowskiSum_any _ n0 n0 xs0 _ n1 n1 xs1 w1 (ptsPts (k := 3) rfl w1 hs) (ptsPts (k := 4) rfl w1 hs) ht0 ht1)) ?_
      rintro ⟨⟨A11_2, c11_2_⟩, lo11_2, hi11_2⟩ -
      refine at_rsE (by simp only [List.nil_append, List.cons_append, List.set_cons_zero, List.set_cons_succ, Value.cells, List.toList_toArray]; rfl) ?_
      refine at_q rfl rfl (by decide) (qt_move rfl rfl) ?_
      refine at_q rfl rfl (by decide) (qt_extract rfl rfl rfl) ?_
      refine at_q rfl rfl (by decide) (qt_extract rfl rfl rfl) ?_
      refine at_q rfl rfl (by decide) (qt_assign rfl rfl) ?_
      refine at_q rfl rfl (by decide) (qt_assign rfl rfl) ?_
      refine at_end ?_
      refine at_seq ?_
      refine at_seq ?_
      refine at_region ?_
      refine at_q rfl rfl (by decide) (qt_move rfl rfl) ?_
      refine at_q rfl rfl (by decide) (qt_move rfl rfl) ?_
      refine at_q rfl rfl (by decide) (qt_call ok_laws_eqPtS rfl rfl (fun w1 hs => eqPtS_same _ _ _ _ _ (mkR xs0 xs1) w1 (ptsPts (k := 5) rfl w1 hs) (ptsPts (k := 2) rfl w1 hs) (by omega))) ?_
      refine at_q rfl rfl (by decide) (qt_not rfl rfl) ?_
      refine at_q rfl rfl (by decide) (qt_move rfl rfl) ?_
      refine at_as 49 (.bool false) rfl (by rw [notTrue]) ?_
      refine at_on rfl rfl rfl rfl ?_
      refine op_q rfl (by decide) (qt_move rfl rfl) ?_
      refine at_on rfl rfl rfl rfl ?_
      refine op_q rfl (by decide) (qt_move rfl rfl) ?_
      refine at_on rfl rfl rfl rfl ?_
      refine op_q rfl (by decide) (qt_neq rfl rfl rfl) ?_
      refine at_q rfl rfl (by decide) (qt_pickF rfl rfl rfl) ?_
      refine at_end ?_
      refine at_no rfl (neSelf _) ?_
      refine at_skip ?_
      refine norm_then ?_
      refine at_seq ?_
      refine at_seq ?_
      refine at_region ?_
      refine at_q rfl rfl (by decide) (qt_move rfl rfl) ?_
      refine at_q rfl rfl (by decide) (qt_move rfl rfl) ?_
      refine at_op rfl ?_
      refine op_call ok_laws_toPtS (X := Nat × Nat × Nat) (v := fun x => .slice (some ⟨x.1, 0, none⟩) n0 n0) (r := fun x => ptsR n0 xs0 x.2.1 x.2.2 (some ⟨x.1, 0, none⟩)) (H := fun _ => True) rfl rfl rfl (by decide) (fun w1 hs => ptsPtS A0 n0 c0_ xs0 w1 (h0.over hs.fin) ht0) ?_
      rintro ⟨g14_2, lo14_2, hi14_2⟩ -
      refine at_rsE (by simp only [List.nil_append, List.cons_append, List.set_cons_zero, List.set_cons_succ, Value.cells, List.toList_toArray]; rfl) ?_
      refine at_q rfl rfl (by decide) (qt_call ok_laws_eqPtS rfl rfl (fun w1 hs => eqPtS_same _ _ _ _ _ xs0 w1 (ptsPts (k := 3) rfl w1 hs) (ptsPts (k := 6) rfl w1 hs) ht0)) ?_
      refine at_q rfl rfl (by decide) (qt_not rfl rfl) ?_
      refine at_end ?_
      refine at_no rfl (rfl) ?_
      refine at_skip ?_
      refine norm_then ?_
      refine at_seq ?_
      refine at_seq ?_
      refine at_region ?_
      refine at_q rfl rfl (by decide) (qt_move rfl rfl) ?_
      refine at_q rfl rfl (by decide) (qt_move rfl rfl) ?_
      refine at_op rfl ?_
      refine op_call ok_laws_toPtS (X := Nat × Nat × Nat) (v := fun x => .slice (some ⟨x.1, 0, none⟩) n1 n1) (r := fun x => ptsR n1 xs1 x.2.1 x.2.2 (some ⟨x.1, 0, none⟩)) (H := fun _ => True) rfl rfl rfl (by decide) (fun w1 hs => ptsPtS A1 n1 c1_ xs1 w1 (h1.over hs.fin) ht1) ?_
      rintro ⟨g16_2, lo16_2, hi16_2⟩ -
      refine at_rsE (by simp only [List.nil_append, List.cons_append, List.set_cons_zero, List.set_cons_succ, Value.cells, List.toList_toArray]; rfl) ?_
      refine at_q rfl rfl (by decide) (qt_call ok_laws_eqPtS rfl rfl (fun w1 hs => eqPtS_same _ _ _ _ _ xs1 w1 (ptsPts (k := 4) rfl w1 hs) (ptsPts (k := 7) rfl w1 hs) ht1)) ?_
      refine at_q rfl rfl (by decide) (qt_not rfl rfl) ?_
      refine at_end ?_
      refine at_no rfl (rfl) ?_
      refine at_skip ?_
      refine norm_then ?_
      refine at_seq ?_
      refine at_region ?_
      refine at_q rfl rfl (by decide) (qt_assign rfl rfl) ?_
      refine at_end ?_
      refine at_seq ?_
      refine at_region ?_
      refine at_q rfl rfl (by decide) (qt_move rfl rfl) ?_
      refine at_q rfl rfl (by decide) (qt_move rfl rfl) ?_
      refine at_op rfl ?_
      refine op_callw (k := 3) (r' := ptsR n0 (marks _ n0) _ _ _) ok_laws_markPtS rfl rfl rfl (by decide) rfl (fun w1 hs => markSlcM _ (ptsS (k := 3) rfl w1 hs) (ptsH (k := 3) rfl w1 hs) (by omega) (by omega)) (fun _ h => h) rfl ?_
      refine at_rsE (by simp only [List.nil_append, List.cons_append, List.set_cons_zero, List.set_cons_succ, Value.cells, List.toList_toArray]; rfl) ?_
      refine at_q rfl rfl (by decide) (qt_assign rfl rfl) ?_
      refine at_end ?_
      refine at_seq ?_
      refine at_region ?_
      refine at_q rfl rfl (by decide) (qt_move rfl rfl) ?_
      refine at_q rfl rfl (by decide) (qt_move rfl rfl) ?_
      refine at_op rfl ?_
      refine op_callw (k := 4) (r' := ptsR n1 (marks _ n1) _ _ _) ok_laws_markPtS rfl rfl rfl (by decide) rfl (fun w1 hs => markSlcM _ (ptsS (k := 4) rfl w1 hs) (ptsH (k := 4) rfl w1 hs) (by omega) (by omega)) (fun _ h => h) rfl ?_
      refine at_rsE (by simp only [List.nil_append, List.cons_append, List.set_cons_zero, List.set_cons_succ, Value.cells, List.toList_toArray]; rfl) ?_
      refine at_q rfl rfl (by decide) (qt_assign rfl rfl) ?_
      refine at_end ?_
      refine at_seq ?_
      refine at_seq ?_
      refine at_region ?_
      refine at_q rfl rfl (by decide) (qt_move rfl rfl) ?_
      refine at_q rfl rfl (by decide) (qt_lss rfl rfl rfl) ?_
      refine at_q rfl rfl (by decide) (qt_move rfl rfl) ?_
      refine at_as 72 (.bool false) rfl (by rw [(posF2 _ _)]) ?_
      refine at_on rfl rfl rfl rfl ?_
      refine op_q rfl (by decide) (qt_move rfl rfl) ?_
      refine at_on rfl rfl rfl rfl ?_
      refine op_q rfl (by decide) (qt_move rfl rfl) ?_
      refine at_on rfl rfl rfl rfl ?_
      refine op_q rfl (by decide) (qt_call ok_laws_eqPtS rfl rfl (fun w1 hs => eqPtS_same _ _ _ _ _ (mkR xs0 xs1) w1 (ptsPts (k := 5) rfl w1 hs) (ptsPts (k := 2) rfl w1 hs) (by omega))) ?_
      refine at_on rfl rfl rfl rfl ?_
      refine op_q rfl (by decide) (qt_not rfl rfl) ?_
      refine at_q rfl rfl (by decide) (qt_pickF rfl rfl rfl) ?_
      refine at_q rfl rfl (by decide) (qt_move rfl rfl) ?_
      refine at_as 78 (.bool false) rfl (by rw [notTrue]) ?_
      refine at_on rfl rfl rfl rfl ?_
      refine op_q rfl (by decide) (qt_move rfl rfl) ?_
      refine at_on rfl rfl rfl rfl ?_
      refine op_q rfl (by decide) (qt_move rfl rfl) ?_
      refine at_on rfl rfl rfl rfl ?_
      refine op_q rfl (by decide) (qt_neq rfl rfl rfl) ?_
      refine at_q rfl rfl (by decide) (qt_pickF rfl rfl rfl) ?_
      refine at_end ?_
      refine at_no rfl (neSelf _) ?_
      refine at_skip ?_
      refine norm_then ?_
      refine at_seq ?_
      refine at_region ?_
      refine at_q rfl rfl (by decide) (qt_assign rfl rfl) ?_
      refine at_end ?_
      refine at_seq ?_
      refine at_region ?_
      refine at_q rfl rfl (by decide) (qt_move rfl rfl) ?_
      refine at_q rfl rfl (by decide) (qt_move rfl rfl) ?_
      refine at_op rfl ?_
      refine op_callw (k := 5) (r' := ptsR _ (marks 1 _) _ _ _) ok_laws_markPtS rfl rfl rfl (by decide) rfl (fun w1 hs => markSlcM 1 (ptsS (k := 5) rfl w1 hs) (ptsH (k := 5) rfl w1 hs) (by omega) (by omega)) (fun _ h => h) rfl ?_
      refine at_rsE (by simp only [List.nil_append, List.cons_append, List.set_cons_zero, List.set_cons_succ, Value.cells, List.toList_toArray]; rfl) ?_
      refine at_q rfl rfl (by decide) (qt_assign rfl rfl) ?_
      refine at_end ?_
      refine at_seq ?_
      refine at_region ?_
      refine at_q rfl rfl (by decide) (qt_assign rfl rfl) ?_
      refine at_end ?_
      refine at_seq ?_
      refine at_region ?_
      refine at_q rfl rfl (by decide) (qt_move rfl rfl) ?_
      refine at_q rfl rfl (by decide) (qt_move rfl rfl) ?_
      refine at_q rfl rfl (by decide) (qt_call ok_laws_heldPtS rfl rfl (fun w1 hs => heldPtS_any _ _ _ 1 w1 (ptsPts (k := 5) rfl w1 hs) (by omega) (by omega))) ?_
      refine at_q rfl rfl (by decide) (qt_assign rfl rfl) ?_
      refine at_end ?_
      refine at_seq ?_
      refine at_seq ?_
      refine at_region ?_
      refine at_q rfl rfl (by decide) (qt_move rfl rfl) ?_
      refine at_q rfl rfl (by decide) (qt_lss rfl rfl rfl) ?_
      refine at_end ?_
      refine at_no rfl (posF _) ?_
      refine at_skip ?_
      refine norm_then ?_
      refine at_seq ?_
      refine at_seq ?_
      refine at_region ?_
      refine at_q rfl rfl (by decide) (qt_move rfl rfl) ?_
      refine at_q rfl rfl (by decide) (qt_move rfl rfl) ?_
      refine at_q rfl rfl (by decide) (qt_neq rfl rfl rfl) ?_
      refine at_end ?_
      refine at_no rfl (neSelf _) ?_
      refine at_skip ?_
      refine norm_then ?_
      refine at_seq ?_
      refine at_region ?_
      refine at_q rfl rfl (by decide) (qt_move rfl rfl) ?_
      refine at_op rfl ?_
      refine op_call ok_laws_toPtS (X := Nat × Nat × Nat) (v := fun x => .slice (some ⟨x.1, 0, none⟩) n0 n0) (r := fun x => ptsR n0 xs0 x.2.1 x.2.2 (some ⟨x.1, 0, none⟩)) (H := fun _ => True) rfl rfl rfl (by decide) (fun w1 hs => ptsPtS A0 n0 c0_ xs0 w1 (h0.over hs.fin) ht0) ?_
      rintro ⟨g31_1, lo31_1, hi31_1⟩ -
      refine at_rsE (by simp only [List.nil_append, List.cons_append, List.set_cons_zero, List.set_cons_succ, Value.cells, List.toList_toArray]; rfl) ?_
      refine at_q rfl rfl (by decide) (qt_move rfl rfl) ?_
      refine at_op rfl ?_
      refine op_call ok_laws_toPtS (X := Nat × Nat × Nat) (v := fun x => .slice (some ⟨x.1, 0, none⟩) n1 n1) (r := fun x => ptsR n1 xs1 x.2.1 x.2.2 (some ⟨x.1, 0, none⟩)) (H := fun _ => True) rfl rfl rfl (by decide) (fun w1 hs => ptsPtS A1 n1 c1_ xs1 w1 (h1.over hs.fin) ht1) ?_
      rintro ⟨g31_3, lo31_3, hi31_3⟩ -
      refine at_rsE (by simp only [List.nil_append, List.cons_append, List.set_cons_zero, List.set_cons_succ, Value.cells, List.toList_toArray]; rfl) ?_
      refine at_op rfl ?_
      refine op_call ok_impl_MinkowskiSum (X := (Option Addr × Nat) × Nat × Nat) (v := fun x => .tuple #[.slice x.1.1 _ x.1.2, .int .i64 _]) (r := fun x => ptsR _ _ x.2.1 x.2.2 x.1.1) (H := fun _ => True) rfl rfl rfl (by decide) (fun w1 hs => slcCode (MinkowskiSum_any _ n0 n0 xs0 _ n1 n1 xs1 w1 (ptsPts (k := 8) rfl w1 hs) (ptsPts (k := 9) rfl w1 hs) ht0 ht1)) ?_
      rintro ⟨⟨A31_4, c31_4_⟩, lo31_4, hi31_4⟩ -
      refine at_rsE (by simp only [List.nil_append, List.cons_append, List.set_cons_zero, List.set_cons_succ, Value.cells, List.toList_toArray]; rfl) ?_
      refine at_q rfl rfl (by decide) (qt_move rfl rfl) ?_
      refine at_q rfl rfl (by decide) (qt_extract rfl rfl rfl) ?_
      refine at_q rfl rfl (by decide) (qt_extract rfl rfl rfl) ?_
      refine at_q rfl rfl (by decide) (qt_assign rfl rfl) ?_
      refine at_q rfl rfl (by decide) (qt_assign rfl rfl) ?_
      refine at_end ?_
      refine at_seq ?_
      refine at_seq ?_
      refine at_region ?_
      refine at_q rfl rfl (by decide) (qt_move rfl rfl) ?_
      refine at_q rfl rfl (by decide) (qt_move rfl rfl) ?_
      refine at_q rfl rfl (by decide) (qt_call ok_laws_eqPtS rfl rfl (fun w1 hs => eqPtS_same _ _ _ _ _ (mkR xs0 xs1) w1 (ptsPts (k := 10) rfl w1 hs) (ptsPts (k := 2) rfl w1 hs) (by omega))) ?_
      refine at_q rfl rfl (by decide) (qt_not rfl rfl) ?_
      refine at_q rfl rfl (by decide) (qt_move rfl rfl) ?_
      refine at_as 106 (.bool false) rfl (by rw [notTrue]) ?_
      refine at_on rfl rfl rfl rfl ?_
      refine op_q rfl (by decide) (qt_move rfl rfl) ?_
      refine at_on rfl rfl rfl rfl ?_
      refine op_q rfl (by decide) (qt_move rfl rfl) ?_
      refine at_on rfl rfl rfl rfl ?_
      refine op_q rfl (by decide) (qt_neq rfl rfl rfl) ?_
      refine at_q rfl rfl (by decide) (qt_pickF rfl rfl rfl) ?_
      refine at_end ?_
      refine at_no rfl (neSelf _) ?_
      refine at_skip ?_
      refine norm_then ?_
      refine at_seq ?_
      refine at_region ?_
      refine at_q rfl rfl (by decide) (qt_assign rfl rfl) ?_
      refine at_end ?_
      refine at_seq ?_
      refine at_region ?_
      refine at_q rfl rfl (by decide) (qt_move rfl rfl) ?_
      refine at_q rfl rfl (by decide) (qt_move rfl rfl) ?_
      refine at_q rfl rfl (by decide) (qt_call ok_laws_heldPtS rfl rfl (fun w1 hs => heldPtS_any _ _ _ 1 w1 (ptsPts (k := 5) rfl w1 hs) (by omega) (by omega))) ?_
      refine at_q rfl rfl (by decide) (qt_assign rfl rfl) ?_
      refine at_end ?_
      refine at_seq ?_
      refine at_seq ?_
      refine at_region ?_
      refine at_q rfl rfl (by decide) (qt_move rfl rfl) ?_
      refine at_q rfl rfl (by decide) (qt_lss rfl rfl rfl) ?_
      refine at_end ?_
      refine at_no rfl (posF _) ?_
      refine at_skip ?_
      refine norm_then ?_
      refine at_seq ?_
      refine at_seq ?_
      refine at_region ?_
      refine at_q rfl rfl (by decide) (qt_move rfl rfl) ?_
      refine at_q rfl rfl (by decide) (qt_move rfl rfl) ?_
      refine at_q rfl rfl (by decide) (qt_neq rfl rfl rfl) ?_
      refine at_end ?_
      refine at_no rfl (neSelf _) ?_
      refine at_skip ?_
      refine norm_then ?_
      refine at_seq ?_
      refine at_region ?_
      refine at_q rfl rfl (by decide) (qt_assign rfl rfl) ?_
      refine at_end ?_
      refine at_retc ?_
      refine at_ret1 rfl (.tmp rfl) ?_
      intro w' hs
      exact ⟨rfl, hs.fin⟩
theorem law_SweepOf (A0 : Option Addr) (n0 c0_ : Nat) (xs0 : List (Int × Int)) (x1 y1 : Int) (x2 y2 : Int) (w : World) (h0 : Pts w A0 n0 xs0) (hm0 : (n0 : Int) ≤ 9223372036854775807) :
    Calls Try.prog 9 #[.slice A0 n0 c0_, ptV x1 y1, ptV x2 y2] w fun e w' => e = .returned (.bool true) ∧ Over w w' := by
  have hl0 := h0.1
  have hsm := sw_len xs0 (x1, y1) (x2, y2)
  refine walk_from (m := 112) (Try.func9) rfl rfl (Nat.le_of_ble_eq_true rfl) ?_
  refine at_seq ?_
  refine at_region ?_
  refine at_op rfl ?_
  refine op_box rfl rfl (rfl) rfl (by decide) (fun b1 => ?_)
  refine at_rsE (by simp only [List.nil_append, List.cons_append, List.set_cons_zero, List.set_cons_succ, Value.cells, List.toList_toArray]; rfl) ?_
  refine at_op rfl ?_
  refine op_box rfl rfl (rfl) rfl (by decide) (fun b2 => ?_)
  refine at_rsE (by simp only [List.nil_append, List.cons_append, List.set_cons_zero, List.set_cons_succ, Value.cells, List.toList_toArray]; rfl) ?_
  refine at_q rfl rfl (by decide) (qt_assign rfl rfl) ?_
  refine at_end ?_
  refine at_seq ?_
  refine at_region ?_
  refine at_q rfl rfl (by decide) (qt_assign rfl rfl) ?_
  refine at_end ?_
  refine at_seq ?_
  refine at_region ?_
  refine at_q rfl rfl (by decide) (qt_move rfl rfl) ?_
  refine at_q rfl rfl (by decide) (qt_move rfl rfl) ?_
  refine at_q rfl rfl (by decide) (qt_call ok_laws_szPtS rfl rfl (fun w1 hs => Calls.still (szPtS_any A0 n0 c0_ 1048576 w1 (by omega) (by omega) hm0))) ?_
  refine at_q rfl rfl (by decide) (qt_assign rfl rfl) ?_
  refine at_end ?_
  refine at_seq ?_
  refine at_seq ?_
  refine at_region ?_
  refine at_q rfl rfl (by decide) (qt_move rfl rfl) ?_
  refine at_q rfl rfl (by decide) (qt_lss rfl rfl rfl) ?_
  refine at_end ?_
  refine at_cond rfl (fun c1 => ?_) (fun c1 => ?_)
  · try simp only [decide_eq_true_eq, decide_eq_false_iff_not, beq_iff_eq, beq_eq_false_iff_ne, Bool.not_eq_true', Bool.not_eq_false', Bool.not_true, Bool.not_false, Int.not_lt, Int.not_le, ne_eq, Nat.not_lt, Nat.not_le] at c1
    refine at_seq ?_
    refine at_region ?_
    refine at_q rfl rfl (by decide) (qt_assign rfl rfl) ?_
    refine at_end ?_
    refine at_retc ?_
    refine then_ret ?_
    refine at_ret1 rfl (.tmp rfl) ?_
    intro w' hs
    exact ⟨rfl, hs.fin⟩
  · try simp only [decide_eq_true_eq, decide_eq_false_iff_not, beq_iff_eq, beq_eq_false_iff_ne, Bool.not_eq_true', Bool.not_eq_false', Bool.not_true, Bool.not_false, Int.not_lt, Int.not_le, ne_eq, Nat.not_lt, Nat.not_le] at c1
    obtain ⟨ht0, et0⟩ := szV_okk c1
    rw [et0]
    replace ht0 : (n0 : Int) ≤ 1048576 := (by omega)
    clear hm0 et0
    refine at_skip ?_
    refine norm_then ?_
    refine at_cutX (X := (Nat × Nat × Nat) × ((Option Addr × Nat) × Nat × Nat) × Nat) (fun x => True) (fun x => [(8, .pointer (some ⟨x.2.2, 0, none⟩)), (9, .int .i64 (swC xs0 (x1, y1) (x2, y2)))]) (C := [(0, _), (4, _), (5, _), (6, _)]) ⟨rfl, rfl, rfl, rfl, trivial⟩ (fun x => [.cel b1 32 [.int .i64 x1, .int .i64 y1], .cel b2 32 [.int .i64 x2, .int .i64 y2], ptsR n0 xs0 x.1.2.1 x.1.2.2 (some ⟨x.1.1, 0, none⟩), ptsR (swR xs0 (x1, y1) (x2, y2)).length (swR xs0 (x1, y1) (x2, y2)) x.2.1.2.1 x.2.1.2.2 x.2.1.1.1, .cel x.2.2 45 [.slice x.2.1.1.1 (swR xs0 (x1, y1) (x2, y2)).length x.2.1.1.2]]) (fun L hC_cut_5 => ?_) ?_
    · refine dg_start mixed rfl ?_
      refine dg_phase 13 ?_
      refine dg_q (i := 0) rfl (by kernel_rfl) (by kernel_rfl) (by kernel_rfl) [] (by kernel_rfl) (fun _ _ _ h => h) rfl rfl (by decide) (fun _ h => h.upto ⟨rfl, rfl, trivial⟩) (qt_move rfl rfl) ?_
      refine dg_q (i := 2) rfl (by kernel_rfl) (by kernel_rfl) (by kernel_rfl) [] (by kernel_rfl) (fun _ _ _ h => h) rfl rfl (by decide) (fun _ h => h.upto ⟨rfl, rfl, trivial⟩) (qt_loadS rfl rfl tys_laws_Pt rfl (rdAll (k := 0) rfl)) ?_
      refine dg_q (i := 4) rfl (by kernel_rfl) (by kernel_rfl) (by kernel_rfl) [] (by kernel_rfl) (fun _ _ _ h => h) rfl rfl (by decide) (fun _ h => h.upto ⟨rfl, rfl, trivial⟩) (qt_loadS rfl rfl tys_laws_Pt rfl (rdAll (k := 1) rfl)) ?_
      refine dg_two (i := 1) (j := 10) rfl rfl (by decide) (by decide) (by kernel_rfl) rfl rfl ?_ ?_
      · refine op_call ok_laws_toPtS (X := Nat × Nat × Nat) (v := fun x => .slice (some ⟨x.1, 0, none⟩) n0 n0) (r := fun x => ptsR n0 xs0 x.2.1 x.2.2 (some ⟨x.1, 0, none⟩)) (H := fun _ => True) rfl rfl rfl (by decide) (fun w1 hs => ptsPtS A0 n0 c0_ xs0 w1 (h0.over hs.fin) ht0) ?_
        rintro ⟨g5_1, lo5_1, hi5_1⟩ -
        refine at_rsE (by simp only [List.nil_append, List.cons_append, List.set_cons_zero, List.set_cons_succ, Value.cells, List.toList_toArray]; rfl) ?_
        refine dr_keep (fun _ h => h.upto ⟨rfl, rfl, trivial⟩) ?_
        refine dg_q (i := 3) rfl (by kernel_rfl) (by kernel_rfl) (by kernel_rfl) [] (by kernel_rfl) (fun _ _ _ h => h) rfl rfl (by decide) (fun _ h => h.upto ⟨rfl, rfl, trivial⟩) (qt_call ok_laws_toPt rfl rfl (fun w1 hs => toPt_any x1 y1 w1)) ?_
        refine dg_q (i := 5) rfl (by kernel_rfl) (by kernel_rfl) (by kernel_rfl) [] (by kernel_rfl) (fun _ _ _ h => h) rfl rfl (by decide) (fun _ h => h.upto ⟨rfl, rfl, trivial⟩) (qt_call ok_laws_toPt rfl rfl (fun w1 hs => toPt_any x2 y2 w1)) ?_
        refine dg_two (i := 6) (j := 10) rfl rfl (by decide) (by decide) (by kernel_rfl) rfl rfl ?_ ?_
        · refine op_call ok_spec_SweepOf (X := (Option Addr × Nat) × Nat × Nat) (v := fun x => .tuple #[ringV x.1.1 _ x.1.2, .int .i64 _]) (r := fun x => ptsR _ _ x.2.1 x.2.2 x.1.1) (H := fun _ => True) rfl rfl rfl (by decide) (fun w1 hs => ptsCode (specSweepOf_any _ n0 n0 xs0 (x1, y1) (x2, y2) w1 (ptsPts (k := 2) rfl w1 hs) ht0)) ?_
          rintro ⟨⟨A5_6, c5_6_⟩, lo5_6, hi5_6⟩ -
          refine at_rsE (by simp only [List.nil_append, List.cons_append, List.set_cons_zero, List.set_cons_succ, Value.cells, List.toList_toArray]; rfl) ?_
          refine dr_keep (fun _ h => h.upto ⟨rfl, rfl, trivial⟩) ?_
          refine dg_q (i := 7) rfl (by kernel_rfl) (by kernel_rfl) (by kernel_rfl) [] (by kernel_rfl) (fun _ _ _ h => h) rfl rfl (by decide) (fun _ h => h.upto ⟨rfl, rfl, trivial⟩) (qt_move rfl rfl) ?_
          refine dg_q (i := 8) rfl (by kernel_rfl) (by kernel_rfl) (by kernel_rfl) [] (by kernel_rfl) (fun _ _ _ h => h) rfl rfl (by decide) (fun _ h => h.upto ⟨rfl, rfl, trivial⟩) (qt_extract rfl rfl rfl) ?_
          refine dg_q (i := 9) rfl (by kernel_rfl) (by kernel_rfl) (by kernel_rfl) [] (by kernel_rfl) (fun _ _ _ h => h) rfl rfl (by decide) (fun _ h => h.upto ⟨rfl, rfl, trivial⟩) (qt_extract rfl rfl rfl) ?_
          refine dg_one (i := 10) rfl (by decide) (by kernel_rfl) rfl ?_
          refine op_alloc rfl tyz_impl_Ring rfl (by decide) (fun b3 => ?_)
          refine at_rsE (by simp only [List.nil_append, List.cons_append, List.set_cons_zero, List.set_cons_succ, Value.cells, List.toList_toArray]; rfl) ?_
          refine dr_keep (fun _ h => h.upto ⟨rfl, rfl, trivial⟩) ?_
          refine dg_one (i := 11) rfl (by decide) (by kernel_rfl) rfl ?_
          refine op_storeAll' (k := 4) rfl rfl rfl rfl (rfl) (by rfl) tyz_impl_Ring.szx rfl rfl rfl ?_
          refine at_rsE (by simp only [List.nil_append, List.cons_append, List.set_cons_zero, List.set_cons_succ, Value.cells, List.toList_toArray]; rfl) ?_
          refine dr_keep (fun _ h => h.upto ⟨rfl, rfl, trivial⟩) ?_
          refine dg_q (i := 12) rfl (by kernel_rfl) (by kernel_rfl) (by kernel_rfl) [] (by kernel_rfl) (fun _ _ _ h => h) rfl rfl (by decide) (fun _ h => h.upto ⟨rfl, rfl, trivial⟩) (qt_assign rfl rfl) ?_
          refine dg_done (by kernel_rfl) ?_
          refine norm_then ?_
          exact at_meetX hC_cut_5 (((g5_1, lo5_1, hi5_1), ((A5_6, c5_6_), lo5_6, hi5_6), b3)) (trivial) ⟨rfl, rfl, rfl, rfl, rfl, rfl, trivial⟩ (fun _ h => h.picks [0, 1, 2, 3, 4] (by decide))
        · refine op_alloc rfl tyz_impl_Ring rfl (by decide) (fun b4 => ?_)
          refine at_rsE (by simp only [List.nil_append, List.cons_append, List.set_cons_zero, List.set_cons_succ, Value.cells, List.toList_toArray]; rfl) ?_
          refine dr_keep (fun _ h => h.upto ⟨rfl, rfl, trivial⟩) ?_
          refine dg_one (i := 6) rfl (by decide) (by kernel_rfl) rfl ?_
          refine op_call ok_spec_SweepOf (X := (Option Addr × Nat) × Nat × Nat) (v := fun x => .tuple #[ringV x.1.1 _ x.1.2, .int .i64 _]) (r := fun x => ptsR _ _ x.2.1 x.2.2 x.1.1) (H := fun _ => True) rfl rfl rfl (by decide) (fun w1 hs => ptsCode (specSweepOf_any _ n0 n0 xs0 (x1, y1) (x2, y2) w1 (ptsPts (k := 2) rfl w1 hs) ht0)) ?_
          rintro ⟨⟨A5_6, c5_6_⟩, lo5_6, hi5_6⟩ -
          refine at_rsE (by simp only [List.nil_append, List.cons_append, List.set_cons_zero, List.set_cons_succ, Value.cells, List.toList_toArray]; rfl) ?_
          refine dr_keep (fun _ h => h.upto ⟨rfl, rfl, trivial⟩) ?_
          refine dg_q (i := 7) rfl (by kernel_rfl) (by kernel_rfl) (by kernel_rfl) [] (by kernel_rfl) (fun _ _ _ h => h) rfl rfl (by decide) (fun _ h => h.upto ⟨rfl, rfl, trivial⟩) (qt_move rfl rfl) ?_
          refine dg_q (i := 8) rfl (by kernel_rfl) (by kernel_rfl) (by kernel_rfl) [] (by kernel_rfl) (fun _ _ _ h => h) rfl rfl (by decide) (fun _ h => h.upto ⟨rfl, rfl, trivial⟩) (qt_extract rfl rfl rfl) ?_
          refine dg_q (i := 9) rfl (by kernel_rfl) (by kernel_rfl) (by kernel_rfl) [] (by kernel_rfl) (fun _ _ _ h => h) rfl rfl (by decide) (fun _ h => h.upto ⟨rfl, rfl, trivial⟩) (qt_extract rfl rfl rfl) ?_
          refine dg_one (i := 11) rfl (by decide) (by kernel_rfl) rfl ?_
          refine op_storeAll' (k := 3) rfl rfl rfl rfl (rfl) (by rfl) tyz_impl_Ring.szx rfl rfl rfl ?_
          refine at_rsE (by simp only [List.nil_append, List.cons_append, List.set_cons_zero, List.set_cons_succ, Value.cells, List.toList_toArray]; rfl) ?_
          refine dr_keep (fun _ h => h.upto ⟨rfl, rfl, trivial⟩) ?_
          refine dg_q (i := 12) rfl (by kernel_rfl) (by kernel_rfl) (by kernel_rfl) [] (by kernel_rfl) (fun _ _ _ h => h) rfl rfl (by decide) (fun _ h => h.upto ⟨rfl, rfl, trivial⟩) (qt_assign rfl rfl) ?_
          refine dg_done (by kernel_rfl) ?_
          refine norm_then ?_
          exact at_meetX hC_cut_5 (((g5_1, lo5_1, hi5_1), ((A5_6, c5_6_), lo5_6, hi5_6), b4)) (trivial) ⟨rfl, rfl, rfl, rfl, rfl, rfl, trivial⟩ (fun _ h => h.picks [0, 1, 2, 4, 3] (by decide))
      · refine op_alloc rfl tyz_impl_Ring rfl (by decide) (fun b5 => ?_)
        refine at_rsE (by simp only [List.nil_append, List.cons_append, List.set_cons_zero, List.set_cons_succ, Value.cells, List.toList_toArray]; rfl) ?_
        refine dr_keep (fun _ h => h.upto ⟨rfl, rfl, trivial⟩) ?_
        refine dg_one (i := 1) rfl (by decide) (by kernel_rfl) rfl ?_
        refine op_call ok_laws_toPtS (X := Nat × Nat × Nat) (v := fun x => .slice (some ⟨x.1, 0, none⟩) n0 n0) (r := fun x => ptsR n0 xs0 x.2.1 x.2.2 (some ⟨x.1, 0, none⟩)) (H := fun _ => True) rfl rfl rfl (by decide) (fun w1 hs => ptsPtS A0 n0 c0_ xs0 w1 (h0.over hs.fin) ht0) ?_
        rintro ⟨g5_1, lo5_1, hi5_1⟩ -
        refine at_rsE (by simp only [List.nil_append, List.cons_append, List.set_cons_zero, List.set_cons_succ, Value.cells, List.toList_toArray]; rfl) ?_
        refine dr_keep (fun _ h => h.upto ⟨rfl, rfl, trivial⟩) ?_
        refine dg_q (i := 3) rfl (by kernel_rfl) (by kernel_rfl) (by kernel_rfl) [] (by kernel_rfl) (fun _ _ _ h => h) rfl rfl (by decide) (fun _ h => h.upto ⟨rfl, rfl, trivial⟩) (qt_call ok_laws_toPt rfl rfl (fun w1 hs => toPt_any x1 y1 w1)) ?_
        refine dg_q (i := 5) rfl (by kernel_rfl) (by kernel_rfl) (by kernel_rfl) [] (by kernel_rfl) (fun _ _ _ h => h) rfl rfl (by decide) (fun _ h => h.upto ⟨rfl, rfl, trivial⟩) (qt_call ok_laws_toPt rfl rfl (fun w1 hs => toPt_any x2 y2 w1)) ?_
        refine dg_one (i := 6) rfl (by decide) (by kernel_rfl) rfl ?_
        refine op_call ok_spec_SweepOf (X := (Option Addr × Nat) × Nat × Nat) (v := fun x => .tuple #[ringV x.1.1 _ x.1.2, .int .i64 _]) (r := fun x => ptsR _ _ x.2.1 x.2.2 x.1.1) (H := fun _ => True) rfl rfl rfl (by decide) (fun w1 hs => ptsCode (specSweepOf_any _ n0 n0 xs0 (x1, y1) (x2, y2) w1 (ptsPts (k := 3) rfl w1 hs) ht0)) ?_
        rintro ⟨⟨A5_6, c5_6_⟩, lo5_6, hi5_6⟩ -
        refine at_rsE (by simp only [List.nil_append, List.cons_append, List.set_cons_zero, List.set_cons_succ, Value.cells, List.toList_toArray]; rfl) ?_
        refine dr_keep (fun _ h => h.upto ⟨rfl, rfl, trivial⟩) ?_
        refine dg_q (i := 7) rfl (by kernel_rfl) (by kernel_rfl) (by kernel_rfl) [] (by kernel_rfl) (fun _ _ _ h => h) rfl rfl (by decide) (fun _ h => h.upto ⟨rfl, rfl, trivial⟩) (qt_move rfl rfl) ?_
        refine dg_q (i := 8) rfl (by kernel_rfl) (by kernel_rfl) (by kernel_rfl) [] (by kernel_rfl) (fun _ _ _ h => h) rfl rfl (by decide) (fun _ h => h.upto ⟨rfl, rfl, trivial⟩) (qt_extract rfl rfl rfl) ?_
        refine dg_q (i := 9) rfl (by kernel_rfl) (by kernel_rfl) (by kernel_rfl) [] (by kernel_rfl) (fun _ _ _ h => h) rfl rfl (by decide) (fun _ h => h.upto ⟨rfl, rfl, trivial⟩) (qt_extract rfl rfl rfl) ?_
        refine dg_one (i := 11) rfl (by decide) (by kernel_rfl) rfl ?_
        refine op_storeAll' (k := 2) rfl rfl rfl rfl (rfl) (by rfl) tyz_impl_Ring.szx rfl rfl rfl ?_
        refine at_rsE (by simp only [List.nil_append, List.cons_append, List.set_cons_zero, List.set_cons_succ, Value.cells, List.toList_toArray]; rfl) ?_
        refine dr_keep (fun _ h => h.upto ⟨rfl, rfl, trivial⟩) ?_
        refine dg_q (i := 12) rfl (by kernel_rfl) (by kernel_rfl) (by kernel_rfl) [] (by kernel_rfl) (fun _ _ _ h => h) rfl rfl (by decide) (fun _ h => h.upto ⟨rfl, rfl, trivial⟩) (qt_assign rfl rfl) ?_
        refine dg_done (by kernel_rfl) ?_
        refine norm_then ?_
        exact at_meetX hC_cut_5 (((g5_1, lo5_1, hi5_1), ((A5_6, c5_6_), lo5_6, hi5_6), b5)) (trivial) ⟨rfl, rfl, rfl, rfl, rfl, rfl, trivial⟩ (fun _ h => h.picks [0, 1, 3, 4, 2] (by decide))
    · rintro ⟨⟨g5_1, lo5_1, hi5_1⟩, ⟨⟨A5_6, c5_6_⟩, lo5_6, hi5_6⟩, bw⟩ -
      refine at_envE (by simp only [List.nil_append, List.cons_append]; rfl) ?_
      refine at_rsE (by first | (dsimp only; done) | (dsimp only; rfl) | rfl) ?_
      refine at_seq ?_
      refine at_region ?_
      refine at_q rfl rfl (by decide) (qt_move rfl rfl) ?_
      refine at_op rfl ?_
      refine op_call ok_laws_toPtS (X := Nat × Nat × Nat) (v := fun x => .slice (some ⟨x.1, 0, none⟩) n0 n0) (r := fun x => ptsR n0 xs0 x.2.1 x.2.2 (some ⟨x.1, 0, none⟩)) (H := fun _ => True) rfl rfl rfl (by decide) (fun w1 hs => ptsPtS A0 n0 c0_ xs0 w1 (h0.over hs.fin) ht0) ?_
      rintro ⟨g6_1, lo6_1, hi6_1⟩ -
      refine at_rsE (by simp only [List.nil_append, List.cons_append, List.set_cons_zero, List.set_cons_succ, Value.cells, List.toList_toArray]; rfl) ?_
      refine at_q rfl rfl (by decide) (qt_assign rfl rfl) ?_
      refine at_end ?_
      refine at_cutX (X := ((Option Addr × Nat) × Nat × Nat) × Nat) (fun x => True) (fun x => [(11, .pointer (some ⟨x.2, 0, none⟩)), (12, .int .i64 (swC xs0 (x1, y1) (x2, y2)))]) (C := [(0, _), (4, _), (5, _), (6, _), (8, _), (9, _), (10, _)]) ⟨rfl, rfl, rfl, rfl, rfl, rfl, rfl, trivial⟩ (fun x => [.cel b1 32 [.int .i64 x1, .int .i64 y1], .cel b2 32 [.int .i64 x2, .int .i64 y2], ptsR n0 xs0 lo5_1 hi5_1 (some ⟨g5_1, 0, none⟩), ptsR (swR xs0 (x1, y1) (x2, y2)).length (swR xs0 (x1, y1) (x2, y2)) lo5_6 hi5_6 A5_6, .cel bw 45 [.slice A5_6 (swR xs0 (x1, y1) (x2, y2)).length c5_6_], ptsR n0 xs0 lo6_1 hi6_1 (some ⟨g6_1, 0, none⟩), ptsR (swR xs0 (x1, y1) (x2, y2)).length (swR xs0 (x1, y1) (x2, y2)) x.1.2.1 x.1.2.2 x.1.1.1, .cel x.2 45 [.slice x.1.1.1 (swR xs0 (x1, y1) (x2, y2)).length x.1.1.2]]) (fun L hC_cut_7 => ?_) ?_
      · refine dg_start mixed rfl ?_
        refine dg_phase 12 ?_
        refine dg_q (i := 0) rfl (by kernel_rfl) (by kernel_rfl) (by kernel_rfl) [] (by kernel_rfl) (fun _ _ _ h => h) rfl rfl (by decide) (fun _ h => h.upto ⟨rfl, rfl, rfl, rfl, rfl, rfl, trivial⟩) (qt_move rfl rfl) ?_
        refine dg_q (i := 1) rfl (by kernel_rfl) (by kernel_rfl) (by kernel_rfl) [] (by kernel_rfl) (fun _ _ _ h => h) rfl rfl (by decide) (fun _ h => h.upto ⟨rfl, rfl, rfl, rfl, rfl, rfl, trivial⟩) (qt_loadS rfl rfl tys_laws_Pt rfl (rdAll (k := 0) rfl)) ?_
        refine dg_q (i := 2) rfl (by kernel_rfl) (by kernel_rfl) (by kernel_rfl) [] (by kernel_rfl) (fun _ _ _ h => h) rfl rfl (by decide) (fun _ h => h.upto ⟨rfl, rfl, rfl, rfl, rfl, rfl, trivial⟩) (qt_call ok_laws_toPt rfl rfl (fun w1 hs => toPt_any x1 y1 w1)) ?_
        refine dg_q (i := 3) rfl (by kernel_rfl) (by kernel_rfl) (by kernel_rfl) [] (by kernel_rfl) (fun _ _ _ h => h) rfl rfl (by decide) (fun _ h => h.upto ⟨rfl, rfl, rfl, rfl, rfl, rfl, trivial⟩) (qt_loadS rfl rfl tys_laws_Pt rfl (rdAll (k := 1) rfl)) ?_
        refine dg_q (i := 4) rfl (by kernel_rfl) (by kernel_rfl) (by kernel_rfl) [] (by kernel_rfl) (fun _ _ _ h => h) rfl rfl (by decide) (fun _ h => h.upto ⟨rfl, rfl, rfl, rfl, rfl, rfl, trivial⟩) (qt_call ok_laws_toPt rfl rfl (fun w1 hs => toPt_any x2 y2 w1)) ?_
        refine dg_two (i := 5) (j := 9) rfl rfl (by decide) (by decide) (by kernel_rfl) rfl rfl ?_ ?_
        · refine op_call ok_impl_SweepOf (X := (Option Addr × Nat) × Nat × Nat) (v := fun x => .tuple #[ringV x.1.1 _ x.1.2, .int .i64 _]) (r := fun x => ptsR _ _ x.2.1 x.2.2 x.1.1) (H := fun _ => True) rfl rfl rfl (by decide) (fun w1 hs => ptsCode (SweepOf_any _ n0 n0 xs0 (x1, y1) (x2, y2) w1 (ptsPts (k := 5) rfl w1 hs) ht0)) ?_
          rintro ⟨⟨A7_5, c7_5_⟩, lo7_5, hi7_5⟩ -
          refine at_rsE (by simp only [List.nil_append, List.cons_append, List.set_cons_zero, List.set_cons_succ, Value.cells, List.toList_toArray]; rfl) ?_
          refine dr_keep (fun _ h => h.upto ⟨rfl, rfl, rfl, rfl, rfl, rfl, trivial⟩) ?_
          refine dg_q (i := 6) rfl (by kernel_rfl) (by kernel_rfl) (by kernel_rfl) [] (by kernel_rfl) (fun _ _ _ h => h) rfl rfl (by decide) (fun _ h => h.upto ⟨rfl, rfl, rfl, rfl, rfl, rfl, trivial⟩) (qt_move rfl rfl) ?_
          refine dg_q (i := 7) rfl (by kernel_rfl) (by kernel_rfl) (by kernel_rfl) [] (by kernel_rfl) (fun _ _ _ h => h) rfl rfl (by decide) (fun _ h => h.upto ⟨rfl, rfl, rfl, rfl, rfl, rfl, trivial⟩) (qt_extract rfl rfl rfl) ?_
          refine dg_q (i := 8) rfl (by kernel_rfl) (by kernel_rfl) (by kernel_rfl) [] (by kernel_rfl) (fun _ _ _ h => h) rfl rfl (by decide) (fun _ h => h.upto ⟨rfl, rfl, rfl, rfl, rfl, rfl, trivial⟩) (qt_extract rfl rfl rfl) ?_
          refine dg_one (i := 9) rfl (by decide) (by kernel_rfl) rfl ?_
          refine op_alloc rfl tyz_impl_Ring rfl (by decide) (fun b6 => ?_)
          refine at_rsE (by simp only [List.nil_append, List.cons_append, List.set_cons_zero, List.set_cons_succ, Value.cells, List.toList_toArray]; rfl) ?_
          refine dr_keep (fun _ h => h.upto ⟨rfl, rfl, rfl, rfl, rfl, rfl, trivial⟩) ?_
          refine dg_one (i := 10) rfl (by decide) (by kernel_rfl) rfl ?_
          refine op_storeAll' (k := 7) rfl rfl rfl rfl (rfl) (by rfl) tyz_impl_Ring.szx rfl rfl rfl ?_
          refine at_rsE (by simp only [List.nil_append, List.cons_append, List.set_cons_zero, List.set_cons_succ, Value.cells, List.toList_toArray]; rfl) ?_
          refine dr_keep (fun _ h => h.upto ⟨rfl, rfl, rfl, rfl, rfl, rfl, trivial⟩) ?_
          refine dg_q (i := 11) rfl (by kernel_rfl) (by kernel_rfl) (by kernel_rfl) [] (by kernel_rfl) (fun _ _ _ h => h) rfl rfl (by decide) (fun _ h => h.upto ⟨rfl, rfl, rfl, rfl, rfl, rfl, trivial⟩) (qt_assign rfl rfl) ?_
          refine dg_done (by kernel_rfl) ?_
          refine norm_then ?_
          exact at_meetX hC_cut_7 ((((A7_5, c7_5_), lo7_5, hi7_5), b6)) (trivial) ⟨rfl, rfl, rfl, rfl, rfl, rfl, rfl, rfl, rfl, trivial⟩ (fun _ h => h.picks [0, 1, 2, 3, 4, 5, 6, 7] (by decide))
        · refine op_alloc rfl tyz_impl_Ring rfl (by decide) (fun b7 => ?_)
          refine at_rsE (by simp only [List.nil_append, List.cons_append, List.set_cons_zero, List.set_cons_succ, Value.cells, List.toList_toArray]; rfl) ?_
          refine dr_keep (fun _ h => h.upto ⟨rfl, rfl, rfl, rfl, rfl, rfl, trivial⟩) ?_
          refine dg_one (i := 5) rfl (by decide) (by kernel_rfl) rfl ?_
          refine op_call ok_impl_SweepOf (X := (Option Addr × Nat) × Nat × Nat) (v := fun x => .tuple #[ringV x.1.1 _ x.1.2, .int .i64 _]) (r := fun x => ptsR _ _ x.2.1 x.2.2 x.1.1) (H := fun _ => True) rfl rfl rfl (by decide) (fun w1 hs => ptsCode (SweepOf_any _ n0 n0 xs0 (x1, y1) (x2, y2) w1 (ptsPts (k := 5) rfl w1 hs) ht0)) ?_
          rintro ⟨⟨A7_5, c7_5_⟩, lo7_5, hi7_5⟩ -
          refine at_rsE (by simp only [List.nil_append, List.cons_append, List.set_cons_zero, List.set_cons_succ, Value.cells, List.toList_toArray]; rfl) ?_
          refine dr_keep (fun _ h => h.upto ⟨rfl, rfl, rfl, rfl, rfl, rfl, trivial⟩) ?_
          refine dg_q (i := 6) rfl (by kernel_rfl) (by kernel_rfl) (by kernel_rfl) [] (by kernel_rfl) (fun _ _ _ h => h) rfl rfl (by decide) (fun _ h => h.upto ⟨rfl, rfl, rfl, rfl, rfl, rfl, trivial⟩) (qt_move rfl rfl) ?_
          refine dg_q (i := 7) rfl (by kernel_rfl) (by kernel_rfl) (by kernel_rfl) [] (by kernel_rfl) (fun _ _ _ h => h) rfl rfl (by decide) (fun _ h => h.upto ⟨rfl, rfl, rfl, rfl, rfl, rfl, trivial⟩) (qt_extract rfl rfl rfl) ?_
          refine dg_q (i := 8) rfl (by kernel_rfl) (by kernel_rfl) (by kernel_rfl) [] (by kernel_rfl) (fun _ _ _ h => h) rfl rfl (by decide) (fun _ h => h.upto ⟨rfl, rfl, rfl, rfl, rfl, rfl, trivial⟩) (qt_extract rfl rfl rfl) ?_
          refine dg_one (i := 10) rfl (by decide) (by kernel_rfl) rfl ?_
          refine op_storeAll' (k := 6) rfl rfl rfl rfl (rfl) (by rfl) tyz_impl_Ring.szx rfl rfl rfl ?_
          refine at_rsE (by simp only [List.nil_append, List.cons_append, List.set_cons_zero, List.set_cons_succ, Value.cells, List.toList_toArray]; rfl) ?_
          refine dr_keep (fun _ h => h.upto ⟨rfl, rfl, rfl, rfl, rfl, rfl, trivial⟩) ?_
          refine dg_q (i := 11) rfl (by kernel_rfl) (by kernel_rfl) (by kernel_rfl) [] (by kernel_rfl) (fun _ _ _ h => h) rfl rfl (by decide) (fun _ h => h.upto ⟨rfl, rfl, rfl, rfl, rfl, rfl, trivial⟩) (qt_assign rfl rfl) ?_
          refine dg_done (by kernel_rfl) ?_
          refine norm_then ?_
          exact at_meetX hC_cut_7 ((((A7_5, c7_5_), lo7_5, hi7_5), b7)) (trivial) ⟨rfl, rfl, rfl, rfl, rfl, rfl, rfl, rfl, rfl, trivial⟩ (fun _ h => h.picks [0, 1, 2, 3, 4, 5, 7, 6] (by decide))
      · rintro ⟨⟨⟨A7_5, c7_5_⟩, lo7_5, hi7_5⟩, bg⟩ -
        refine at_envE (by simp only [List.nil_append, List.cons_append]; rfl) ?_
        refine at_rsE (by first | (dsimp only; done) | (dsimp only; rfl) | rfl) ?_
        refine at_seq ?_
        refine at_seq ?_
        refine at_region ?_
        refine at_q rfl rfl (by decide) (qt_loadS rfl rfl tys_impl_Ring rfl (rdAll (k := 7) rfl)) ?_
        refine at_q rfl rfl (by decide) (qt_loadS rfl rfl tys_impl_Ring rfl (rdAll (k := 4) rfl)) ?_
        refine at_q rfl rfl (by decide) (qt_call ok_laws_eqRing rfl rfl (fun w1 hs => eqPts (ptsPts (k := 6) rfl w1 hs) (ptsPts (k := 3) rfl w1 hs) (by omega))) ?_
        refine at_q rfl rfl (by decide) (qt_not rfl rfl) ?_
        refine at_q rfl rfl (by decide) (qt_move rfl rfl) ?_
        refine at_as 48 (.bool false) rfl (by rw [notTrue]) ?_
        refine at_on rfl rfl rfl rfl ?_
        refine op_q rfl (by decide) (qt_move rfl rfl) ?_
        refine at_on rfl rfl rfl rfl ?_
        refine op_q rfl (by decide) (qt_move rfl rfl) ?_
        refine at_on rfl rfl rfl rfl ?_
        refine op_q rfl (by decide) (qt_neq rfl rfl rfl) ?_
        refine at_q rfl rfl (by decide) (qt_pickF rfl rfl rfl) ?_
        refine at_end ?_
        refine at_no rfl (neSelf _) ?_
        refine at_skip ?_
        refine norm_then ?_
        refine at_seq ?_
        refine at_seq ?_
        refine at_region ?_
        refine at_q rfl rfl (by decide) (qt_move rfl rfl) ?_
        refine at_q rfl rfl (by decide) (qt_move rfl rfl) ?_
        refine at_op rfl ?_
        refine op_call ok_laws_toPtS (X := Nat × Nat × Nat) (v := fun x => .slice (some ⟨x.1, 0, none⟩) n0 n0) (r := fun x => ptsR n0 xs0 x.2.1 x.2.2 (some ⟨x.1, 0, none⟩)) (H := fun _ => True) rfl rfl rfl (by decide) (fun w1 hs => ptsPtS A0 n0 c0_ xs0 w1 (h0.over hs.fin) ht0) ?_
        rintro ⟨g10_2, lo10_2, hi10_2⟩ -
        refine at_rsE (by simp only [List.nil_append, List.cons_append, List.set_cons_zero, List.set_cons_succ, Value.cells, List.toList_toArray]; rfl) ?_
        refine at_q rfl rfl (by decide) (qt_call ok_laws_eqPtS rfl rfl (fun w1 hs => eqPtS_same _ _ _ _ _ xs0 w1 (ptsPts (k := 5) rfl w1 hs) (ptsPts (k := 8) rfl w1 hs) ht0)) ?_
        refine at_q rfl rfl (by decide) (qt_not rfl rfl) ?_
        refine at_end ?_
        refine at_no rfl (rfl) ?_
        refine at_skip ?_
        refine norm_then ?_
        refine at_seq ?_
        refine at_region ?_
        refine at_q rfl rfl (by decide) (qt_assign rfl rfl) ?_
        refine at_end ?_
        refine at_seq ?_
        refine at_region ?_
        refine at_q rfl rfl (by decide) (qt_move rfl rfl) ?_
        refine at_q rfl rfl (by decide) (qt_move rfl rfl) ?_
        refine at_op rfl ?_
        refine op_callw (k := 5) (r' := ptsR n0 (marks _ n0) _ _ _) ok_laws_markPtS rfl rfl rfl (by decide) rfl (fun w1 hs => markSlcM _ (ptsS (k := 5) rfl w1 hs) (ptsH (k := 5) rfl w1 hs) (by omega) (by omega)) (fun _ h => h) rfl ?_
        refine at_rsE (by simp only [List.nil_append, List.cons_append, List.set_cons_zero, List.set_cons_succ, Value.cells, List.toList_toArray]; rfl) ?_
        refine at_q rfl rfl (by decide) (qt_assign rfl rfl) ?_
        refine at_end ?_
        refine at_seq ?_
        refine at_seq ?_
        refine at_region ?_
        refine at_q rfl rfl (by decide) (qt_move rfl rfl) ?_
        refine at_q rfl rfl (by decide) (qt_lss rfl rfl rfl) ?_
        refine at_q rfl rfl (by decide) (qt_move rfl rfl) ?_
        refine at_as 63 (.bool false) rfl (by rw [(posF _)]) ?_
        refine at_on rfl rfl rfl rfl ?_
        refine op_q rfl (by decide) (qt_loadS rfl rfl tys_impl_Ring rfl (rdAll (k := 7) rfl)) ?_
        refine at_on rfl rfl rfl rfl ?_
        refine op_q rfl (by decide) (qt_loadS rfl rfl tys_impl_Ring rfl (rdAll (k := 4) rfl)) ?_
        refine at_on rfl rfl rfl rfl ?_
        refine op_q rfl (by decide) (qt_call ok_laws_eqRing rfl rfl (fun w1 hs => eqPts (ptsPts (k := 6) rfl w1 hs) (ptsPts (k := 3) rfl w1 hs) (by omega))) ?_
        refine at_on rfl rfl rfl rfl ?_
        refine op_q rfl (by decide) (qt_not rfl rfl) ?_
        refine at_q rfl rfl (by decide) (qt_pickF rfl rfl rfl) ?_
        refine at_q rfl rfl (by decide) (qt_move rfl rfl) ?_
        refine at_as 69 (.bool false) rfl (by rw [notTrue]) ?_
        refine at_on rfl rfl rfl rfl ?_
        refine op_q rfl (by decide) (qt_move rfl rfl) ?_
        refine at_on rfl rfl rfl rfl ?_
        refine op_q rfl (by decide) (qt_move rfl rfl) ?_
        refine at_on rfl rfl rfl rfl ?_
        refine op_q rfl (by decide) (qt_neq rfl rfl rfl) ?_
        refine at_q rfl rfl (by decide) (qt_pickF rfl rfl rfl) ?_
        refine at_end ?_
        refine at_no rfl (neSelf _) ?_
        refine at_skip ?_
        refine norm_then ?_
        refine at_seq ?_
        refine at_region ?_
        refine at_q rfl rfl (by decide) (qt_assign rfl rfl) ?_
        refine at_end ?_
        refine at_seq ?_
        refine at_region ?_
        refine at_q rfl rfl (by decide) (qt_loadS rfl rfl tys_impl_Ring rfl (rdAll (k := 7) rfl)) ?_
        refine at_q rfl rfl (by decide) (qt_move rfl rfl) ?_
        refine at_op rfl ?_
        refine op_callw (k := 6) (r' := ptsR _ (marks 1 _) _ _ _) ok_laws_markRing rfl rfl rfl (by decide) rfl (fun w1 hs => markPts (ptsS (k := 6) rfl w1 hs) (ptsH (k := 6) rfl w1 hs) (by omega)) (fun _ h => h) rfl ?_
        refine at_rsE (by simp only [List.nil_append, List.cons_append, List.set_cons_zero, List.set_cons_succ, Value.cells, List.toList_toArray]; rfl) ?_
        refine at_q rfl rfl (by decide) (qt_assign rfl rfl) ?_
        refine at_end ?_
        refine at_seq ?_
        refine at_region ?_
        refine at_q rfl rfl (by decide) (qt_assign rfl rfl) ?_
        refine at_end ?_
        refine at_seq ?_
        refine at_region ?_
        refine at_q rfl rfl (by decide) (qt_loadS rfl rfl tys_impl_Ring rfl (rdAll (k := 7) rfl)) ?_
        refine at_q rfl rfl (by decide) (qt_move rfl rfl) ?_
        refine at_q rfl rfl (by decide) (qt_call ok_laws_heldRing rfl rfl (fun w1 hs => heldPts (ptsPts (k := 6) rfl w1 hs) (by omega))) ?_
        refine at_q rfl rfl (by decide) (qt_assign rfl rfl) ?_
        refine at_end ?_
        refine at_seq ?_
        refine at_seq ?_
        refine at_region ?_
        refine at_q rfl rfl (by decide) (qt_move rfl rfl) ?_
        refine at_q rfl rfl (by decide) (qt_lss rfl rfl rfl) ?_
        refine at_end ?_
        refine at_no rfl (posF _) ?_
        refine at_skip ?_
        refine norm_then ?_
        refine at_seq ?_
        refine at_seq ?_
        refine at_region ?_
        refine at_q rfl rfl (by decide) (qt_move rfl rfl) ?_
        refine at_q rfl rfl (by decide) (qt_move rfl rfl) ?_
        refine at_q rfl rfl (by decide) (qt_neq rfl rfl rfl) ?_
        refine at_end ?_
        refine at_no rfl (neSelf _) ?_
        refine at_skip ?_
        refine norm_then ?_
        refine at_cutX (X := (Nat × Nat × Nat) × ((Option Addr × Nat) × Nat × Nat) × Nat) (fun x => True) (fun x => [(16, .pointer (some ⟨x.2.2, 0, none⟩)), (17, .int .i64 (swC xs0 (x1, y1) (x2, y2)))]) (C := [(6, _), (8, _), (9, _), (11, _), (14, _), (15, _)]) ⟨rfl, rfl, rfl, rfl, rfl, rfl, trivial⟩ (fun x => [ptsR (swR xs0 (x1, y1) (x2, y2)).length (swR xs0 (x1, y1) (x2, y2)) lo5_6 hi5_6 A5_6, .cel bw 45 [.slice A5_6 (swR xs0 (x1, y1) (x2, y2)).length c5_6_], ptsR (swR xs0 (x1, y1) (x2, y2)).length (marks 1 (swR xs0 (x1, y1) (x2, y2)).length) lo7_5 hi7_5 A7_5, .cel bg 45 [.slice A7_5 (swR xs0 (x1, y1) (x2, y2)).length c7_5_], ptsR n0 xs0 x.1.2.1 x.1.2.2 (some ⟨x.1.1, 0, none⟩), ptsR (swR xs0 (x1, y1) (x2, y2)).length (swR xs0 (x1, y1) (x2, y2)) x.2.1.2.1 x.2.1.2.2 x.2.1.1.1, .cel x.2.2 45 [.slice x.2.1.1.1 (swR xs0 (x1, y1) (x2, y2)).length x.2.1.1.2]]) (fun L hC_cut_24 => ?_) ?_
        · refine dg_start mixed rfl ?_
          refine dg_phase 13 ?_
          refine dg_q (i := 0) rfl (by kernel_rfl) (by kernel_rfl) (by kernel_rfl) [] (by kernel_rfl) (fun _ _ _ h => h) rfl rfl (by decide) (fun _ h => h.upto ⟨rfl, rfl, rfl, rfl, rfl, rfl, rfl, rfl, rfl, trivial⟩) (qt_move rfl rfl) ?_
          refine dg_q (i := 2) rfl (by kernel_rfl) (by kernel_rfl) (by kernel_rfl) [] (by kernel_rfl) (fun _ _ _ h => h) rfl rfl (by decide) (fun _ h => h.upto ⟨rfl, rfl, rfl, rfl, rfl, rfl, rfl, rfl, rfl, trivial⟩) (qt_loadS rfl rfl tys_laws_Pt rfl (rdAll (k := 0) rfl)) ?_
          refine dg_q (i := 4) rfl (by kernel_rfl) (by kernel_rfl) (by kernel_rfl) [] (by kernel_rfl) (fun _ _ _ h => h) rfl rfl (by decide) (fun _ h => h.upto ⟨rfl, rfl, rfl, rfl, rfl, rfl, rfl, rfl, rfl, trivial⟩) (qt_loadS rfl rfl tys_laws_Pt rfl (rdAll (k := 1) rfl)) ?_
          refine dg_two (i := 1) (j := 10) rfl rfl (by decide) (by decide) (by kernel_rfl) rfl rfl ?_ ?_
          · refine op_call ok_laws_toPtS (X := Nat × Nat × Nat) (v := fun x => .slice (some ⟨x.1, 0, none⟩) n0 n0) (r := fun x => ptsR n0 xs0 x.2.1 x.2.2 (some ⟨x.1, 0, none⟩)) (H := fun _ => True) rfl rfl rfl (by decide) (fun w1 hs => ptsPtS A0 n0 c0_ xs0 w1 (h0.over hs.fin) ht0) ?_
            rintro ⟨g24_1, lo24_1, hi24_1⟩ -
            refine at_rsE (by simp only [List.nil_append, List.cons_append, List.set_cons_zero, List.set_cons_succ, Value.cells, List.toList_toArray]; rfl) ?_
            refine dr_keep (fun _ h => h.upto ⟨rfl, rfl, rfl, rfl, rfl, rfl, rfl, rfl, rfl, trivial⟩) ?_
            refine dg_q (i := 3) rfl (by kernel_rfl) (by kernel_rfl) (by kernel_rfl) [] (by kernel_rfl) (fun _ _ _ h => h) rfl rfl (by decide) (fun _ h => h.upto ⟨rfl, rfl, rfl, rfl, rfl, rfl, rfl, rfl, rfl, trivial⟩) (qt_call ok_laws_toPt rfl rfl (fun w1 hs => toPt_any x1 y1 w1)) ?_
            refine dg_q (i := 5) rfl (by kernel_rfl) (by kernel_rfl) (by kernel_rfl) [] (by kernel_rfl) (fun _ _ _ h => h) rfl rfl (by decide) (fun _ h => h.upto ⟨rfl, rfl, rfl, rfl, rfl, rfl, rfl, rfl, rfl, trivial⟩) (qt_call ok_laws_toPt rfl rfl (fun w1 hs => toPt_any x2 y2 w1)) ?_
            refine dg_two (i := 6) (j := 10) rfl rfl (by decide) (by decide) (by kernel_rfl) rfl rfl ?_ ?_
            · refine op_call ok_impl_SweepOf (X := (Option Addr × Nat) × Nat × Nat) (v := fun x => .tuple #[ringV x.1.1 _ x.1.2, .int .i64 _]) (r := fun x => ptsR _ _ x.2.1 x.2.2 x.1.1) (H := fun _ => True) rfl rfl rfl (by decide) (fun w1 hs => ptsCode (SweepOf_any _ n0 n0 xs0 (x1, y1) (x2, y2) w1 (ptsPts (k := 9) rfl w1 hs) ht0)) ?_
              rintro ⟨⟨A24_6, c24_6_⟩, lo24_6, hi24_6⟩ -
              refine at_rsE (by simp only [List.nil_append, List.cons_append, List.set_cons_zero, List.set_cons_succ, Value.cells, List.toList_toArray]; rfl) ?_
              refine dr_keep (fun _ h => h.upto ⟨rfl, rfl, rfl, rfl, rfl, rfl, rfl, rfl, rfl, trivial⟩) ?_
              refine dg_q (i := 7) rfl (by kernel_rfl) (by kernel_rfl) (by kernel_rfl) [] (by kernel_rfl) (fun _ _ _ h => h) rfl rfl (by decide) (fun _ h => h.upto ⟨rfl, rfl, rfl, rfl, rfl, rfl, rfl, rfl, rfl, trivial⟩) (qt_move rfl rfl) ?_
              refine dg_q (i := 8) rfl (by kernel_rfl) (by kernel_rfl) (by kernel_rfl) [] (by kernel_rfl) (fun _ _ _ h => h) rfl rfl (by decide) (fun _ h => h.upto ⟨rfl, rfl, rfl, rfl, rfl, rfl, rfl, rfl, rfl, trivial⟩) (qt_extract rfl rfl rfl) ?_
              refine dg_q (i := 9) rfl (by kernel_rfl) (by kernel_rfl) (by kernel_rfl) [] (by kernel_rfl) (fun _ _ _ h => h) rfl rfl (by decide) (fun _ h => h.upto ⟨rfl, rfl, rfl, rfl, rfl, rfl, rfl, rfl, rfl, trivial⟩) (qt_extract rfl rfl rfl) ?_
              refine dg_one (i := 10) rfl (by decide) (by kernel_rfl) rfl ?_
              refine op_alloc rfl tyz_impl_Ring rfl (by decide) (fun b8 => ?_)
              refine at_rsE (by simp only [List.nil_append, List.cons_append, List.set_cons_zero, List.set_cons_succ, Value.cells, List.toList_toArray]; rfl) ?_
              refine dr_keep (fun _ h => h.upto ⟨rfl, rfl, rfl, rfl, rfl, rfl, rfl, rfl, rfl, trivial⟩) ?_
              refine dg_one (i := 11) rfl (by decide) (by kernel_rfl) rfl ?_
              refine op_storeAll' (k := 11) rfl rfl rfl rfl (rfl) (by rfl) tyz_impl_Ring.szx rfl rfl rfl ?_
              refine at_rsE (by simp only [List.nil_append, List.cons_append, List.set_cons_zero, List.set_cons_succ, Value.cells, List.toList_toArray]; rfl) ?_
              refine dr_keep (fun _ h => h.upto ⟨rfl, rfl, rfl, rfl, rfl, rfl, rfl, rfl, rfl, trivial⟩) ?_
              refine dg_q (i := 12) rfl (by kernel_rfl) (by kernel_rfl) (by kernel_rfl) [] (by kernel_rfl) (fun _ _ _ h => h) rfl rfl (by decide) (fun _ h => h.upto ⟨rfl, rfl, rfl, rfl, rfl, rfl, rfl, rfl, rfl, trivial⟩) (qt_assign rfl rfl) ?_
              refine dg_done (by kernel_rfl) ?_
              refine norm_then ?_
              exact at_meetX hC_cut_24 (((g24_1, lo24_1, hi24_1), ((A24_6, c24_6_), lo24_6, hi24_6), b8)) (trivial) ⟨rfl, rfl, rfl, rfl, rfl, rfl, rfl, rfl, trivial⟩ (fun _ h => h.picks [3, 4, 6, 7, 9, 10, 11] (by decide))
            · refine op_alloc rfl tyz_impl_Ring rfl (by decide) (fun b9 => ?_)
              refine at_rsE (by simp only [List.nil_append, List.cons_append, List.set_cons_zero, List.set_cons_succ, Value.cells, List.toList_toArray]; rfl) ?_
              refine dr_keep (fun _ h => h.upto ⟨rfl, rfl, rfl, rfl, rfl, rfl, rfl, rfl, rfl, trivial⟩) ?_
              refine dg_one (i := 6) rfl (by decide) (by kernel_rfl) rfl ?_
              refine op_call ok_impl_SweepOf (X := (Option Addr × Nat) × Nat × Nat) (v := fun x => .tuple #[ringV x.1.1 _ x.1.2, .int .i64 _]) (r := fun x => ptsR _ _ x.2.1 x.2.2 x.1.1) (H := fun _ => True) rfl rfl rfl (by decide) (fun w1 hs => ptsCode (SweepOf_any _ n0 n0 xs0 (x1, y1) (x2, y2) w1 (ptsPts (k := 9) rfl w1 hs) ht0)) ?_
              rintro ⟨⟨A24_6, c24_6_⟩, lo24_6, hi24_6⟩ -
              refine at_rsE (by simp only [List.nil_append, List.cons_append, List.set_cons_zero, List.set_cons_succ, Value.cells, List.toList_toArray]; rfl) ?_
              refine dr_keep (fun _ h => h.upto ⟨rfl, rfl, rfl, rfl, rfl, rfl, rfl, rfl, rfl, trivial⟩) ?_
              refine dg_q (i := 7) rfl (by kernel_rfl) (by kernel_rfl) (by kernel_rfl) [] (by kernel_rfl) (fun _ _ _ h => h) rfl rfl (by decide) (fun _ h => h.upto ⟨rfl, rfl, rfl, rfl, rfl, rfl, rfl, rfl, rfl, trivial⟩) (qt_move rfl rfl) ?_
              refine dg_q (i := 8) rfl (by kernel_rfl) (by kernel_rfl) (by kernel_rfl) [] (by kernel_rfl) (fun _ _ _ h => h) rfl rfl (by decide) (fun _ h => h.upto ⟨rfl, rfl, rfl, rfl, rfl, rfl, rfl, rfl, rfl, trivial⟩) (qt_extract rfl rfl rfl) ?_
              refine dg_q (i := 9) rfl (by kernel_rfl) (by kernel_rfl) (by kernel_rfl) [] (by kernel_rfl) (fun _ _ _ h => h) rfl rfl (by decide) (fun _ h => h.upto ⟨rfl, rfl, rfl, rfl, rfl, rfl, rfl, rfl, rfl, trivial⟩) (qt_extract rfl rfl rfl) ?_
              refine dg_one (i := 11) rfl (by decide) (by kernel_rfl) rfl ?_
              refine op_storeAll' (k := 10) rfl rfl rfl rfl (rfl) (by rfl) tyz_impl_Ring.szx rfl rfl rfl ?_
              refine at_rsE (by simp only [List.nil_append, List.cons_append, List.set_cons_zero, List.set_cons_succ, Value.cells, List.toList_toArray]; rfl) ?_
              refine dr_keep (fun _ h => h.upto ⟨rfl, rfl, rfl, rfl, rfl, rfl, rfl, rfl, rfl, trivial⟩) ?_
              refine dg_q (i := 12) rfl (by kernel_rfl) (by kernel_rfl) (by kernel_rfl) [] (by kernel_rfl) (fun _ _ _ h => h) rfl rfl (by decide) (fun _ h => h.upto ⟨rfl, rfl, rfl, rfl, rfl, rfl, rfl, rfl, rfl, trivial⟩) (qt_assign rfl rfl) ?_
              refine dg_done (by kernel_rfl) ?_
              refine norm_then ?_
              exact at_meetX hC_cut_24 (((g24_1, lo24_1, hi24_1), ((A24_6, c24_6_), lo24_6, hi24_6), b9)) (trivial) ⟨rfl, rfl, rfl, rfl, rfl, rfl, rfl, rfl, trivial⟩ (fun _ h => h.picks [3, 4, 6, 7, 9, 11, 10] (by decide))
          · refine op_alloc rfl tyz_impl_Ring rfl (by decide) (fun b10 => ?_)
            refine at_rsE (by simp only [List.nil_append, List.cons_append, List.set_cons_zero, List.set_cons_succ, Value.cells, List.toList_toArray]; rfl) ?_
            refine dr_keep (fun _ h => h.upto ⟨rfl, rfl, rfl, rfl, rfl, rfl, rfl, rfl, rfl, trivial⟩) ?_
            refine dg_one (i := 1) rfl (by decide) (by kernel_rfl) rfl ?_
            refine op_call ok_laws_toPtS (X := Nat × Nat × Nat) (v := fun x => .slice (some ⟨x.1, 0, none⟩) n0 n0) (r := fun x => ptsR n0 xs0 x.2.1 x.2.2 (some ⟨x.1, 0, none⟩)) (H := fun _ => True) rfl rfl rfl (by decide) (fun w1 hs => ptsPtS A0 n0 c0_ xs0 w1 (h0.over hs.fin) ht0) ?_
            rintro ⟨g24_1, lo24_1, hi24_1⟩ -
            refine at_rsE (by simp only [List.nil_append, List.cons_append, List.set_cons_zero, List.set_cons_succ, Value.cells, List.toList_toArray]; rfl) ?_
            refine dr_keep (fun _ h => h.upto ⟨rfl, rfl, rfl, rfl, rfl, rfl, rfl, rfl, rfl, trivial⟩) ?_
            refine dg_q (i := 3) rfl (by kernel_rfl) (by kernel_rfl) (by kernel_rfl) [] (by kernel_rfl) (fun _ _ _ h => h) rfl rfl (by decide) (fun _ h => h.upto ⟨rfl, rfl, rfl, rfl, rfl, rfl, rfl, rfl, rfl, trivial⟩) (qt_call ok_laws_toPt rfl rfl (fun w1 hs => toPt_any x1 y1 w1)) ?_
            refine dg_q (i := 5) rfl (by kernel_rfl) (by kernel_rfl) (by kernel_rfl) [] (by kernel_rfl) (fun _ _ _ h => h) rfl rfl (by decide) (fun _ h => h.upto ⟨rfl, rfl, rfl, rfl, rfl, rfl, rfl, rfl, rfl, trivial⟩) (qt_call ok_laws_toPt rfl rfl (fun w1 hs => toPt_any x2 y2 w1)) ?_
            refine dg_one (i := 6) rfl (by decide) (by kernel_rfl) rfl ?_
            refine op_call ok_impl_SweepOf (X := (Option Addr × Nat) × Nat × Nat) (v := fun x => .tuple #[ringV x.1.1 _ x.1.2, .int .i64 _]) (r := fun x => ptsR _ _ x.2.1 x.2.2 x.1.1) (H := fun _ => True) rfl rfl rfl (by decide) (fun w1 hs => ptsCode (SweepOf_any _ n0 n0 xs0 (x1, y1) (x2, y2) w1 (ptsPts (k := 10) rfl w1 hs) ht0)) ?_
            rintro ⟨⟨A24_6, c24_6_⟩, lo24_6, hi24_6⟩ -
            refine at_rsE (by simp only [List.nil_append, List.cons_append, List.set_cons_zero, List.set_cons_succ, Value.cells, List.toList_toArray]; rfl) ?_
            refine dr_keep (fun _ h => h.upto ⟨rfl, rfl, rfl, rfl, rfl, rfl, rfl, rfl, rfl, trivial⟩) ?_
            refine dg_q (i := 7) rfl (by kernel_rfl) (by kernel_rfl) (by kernel_rfl) [] (by kernel_rfl) (fun _ _ _ h => h) rfl rfl (by decide) (fun _ h => h.upto ⟨rfl, rfl, rfl, rfl, rfl, rfl, rfl, rfl, rfl, trivial⟩) (qt_move rfl rfl) ?_
            refine dg_q (i := 8) rfl (by kernel_rfl) (by kernel_rfl) (by kernel_rfl) [] (by kernel_rfl) (fun _ _ _ h => h) rfl rfl (by decide) (fun _ h => h.upto ⟨rfl, rfl, rfl, rfl, rfl, rfl, rfl, rfl, rfl, trivial⟩) (qt_extract rfl rfl rfl) ?_
            refine dg_q (i := 9) rfl (by kernel_rfl) (by kernel_rfl) (by kernel_rfl) [] (by kernel_rfl) (fun _ _ _ h => h) rfl rfl (by decide) (fun _ h => h.upto ⟨rfl, rfl, rfl, rfl, rfl, rfl, rfl, rfl, rfl, trivial⟩) (qt_extract rfl rfl rfl) ?_
            refine dg_one (i := 11) rfl (by decide) (by kernel_rfl) rfl ?_
            refine op_storeAll' (k := 9) rfl rfl rfl rfl (rfl) (by rfl) tyz_impl_Ring.szx rfl rfl rfl ?_
            refine at_rsE (by simp only [List.nil_append, List.cons_append, List.set_cons_zero, List.set_cons_succ, Value.cells, List.toList_toArray]; rfl) ?_
            refine dr_keep (fun _ h => h.upto ⟨rfl, rfl, rfl, rfl, rfl, rfl, rfl, rfl, rfl, trivial⟩) ?_
            refine dg_q (i := 12) rfl (by kernel_rfl) (by kernel_rfl) (by kernel_rfl) [] (by kernel_rfl) (fun _ _ _ h => h) rfl rfl (by decide) (fun _ h => h.upto ⟨rfl, rfl, rfl, rfl, rfl, rfl, rfl, rfl, rfl, trivial⟩) (qt_assign rfl rfl) ?_
            refine dg_done (by kernel_rfl) ?_
            refine norm_then ?_
            exact at_meetX hC_cut_24 (((g24_1, lo24_1, hi24_1), ((A24_6, c24_6_), lo24_6, hi24_6), b10)) (trivial) ⟨rfl, rfl, rfl, rfl, rfl, rfl, rfl, rfl, trivial⟩ (fun _ h => h.picks [3, 4, 6, 7, 10, 11, 9] (by decide))
        · rintro ⟨⟨g24_1, lo24_1, hi24_1⟩, ⟨⟨A24_6, c24_6_⟩, lo24_6, hi24_6⟩, bh⟩ -
          refine at_envE (by simp only [List.nil_append, List.cons_append]; rfl) ?_
          refine at_rsE (by first | (dsimp only; done) | (dsimp only; rfl) | rfl) ?_
          refine at_seq ?_
          refine at_seq ?_
          refine at_region ?_
          refine at_q rfl rfl (by decide) (qt_loadS rfl rfl tys_impl_Ring rfl (rdAll (k := 6) rfl)) ?_
          refine at_q rfl rfl (by decide) (qt_loadS rfl rfl tys_impl_Ring rfl (rdAll (k := 1) rfl)) ?_
          refine at_q rfl rfl (by decide) (qt_call ok_laws_eqRing rfl rfl (fun w1 hs => eqPts (ptsPts (k := 5) rfl w1 hs) (ptsPts (k := 0) rfl w1 hs) (by omega))) ?_
          refine at_q rfl rfl (by decide) (qt_not rfl rfl) ?_
          refine at_q rfl rfl (by decide) (qt_move rfl rfl) ?_
          refine at_as 99 (.bool false) rfl (by rw [notTrue]) ?_
          refine at_on rfl rfl rfl rfl ?_
          refine op_q rfl (by decide) (qt_move rfl rfl) ?_
          refine at_on rfl rfl rfl rfl ?_
          refine op_q rfl (by decide) (qt_move rfl rfl) ?_
          refine at_on rfl rfl rfl rfl ?_
          refine op_q rfl (by decide) (qt_neq rfl rfl rfl) ?_
          refine at_q rfl rfl (by decide) (qt_pickF rfl rfl rfl) ?_
          refine at_end ?_
          refine at_no rfl (neSelf _) ?_
          refine at_skip ?_
          refine norm_then ?_
          refine at_seq ?_
          refine at_region ?_
          refine at_q rfl rfl (by decide) (qt_assign rfl rfl) ?_
          refine at_end ?_
          refine at_seq ?_
          refine at_region ?_
          refine at_q rfl rfl (by decide) (qt_loadS rfl rfl tys_impl_Ring rfl (rdAll (k := 3) rfl)) ?_
          refine at_q rfl rfl (by decide) (qt_move rfl rfl) ?_
          refine at_q rfl rfl (by decide) (qt_call ok_laws_heldRing rfl rfl (fun w1 hs => heldPts (ptsPts (k := 2) rfl w1 hs) (by omega))) ?_
          refine at_q rfl rfl (by decide) (qt_assign rfl rfl) ?_
          refine at_end ?_
          refine at_seq ?_
          refine at_seq ?_
          refine at_region ?_
          refine at_q rfl rfl (by decide) (qt_move rfl rfl) ?_
          refine at_q rfl rfl (by decide) (qt_lss rfl rfl rfl) ?_
          refine at_end ?_
          refine at_no rfl (posF _) ?_
          refine at_skip ?_
          refine norm_then ?_
          refine at_seq ?_
          refine at_seq ?_
          refine at_region ?_
          refine at_q rfl rfl (by decide) (qt_move rfl rfl) ?_
          refine at_q rfl rfl (by decide) (qt_move rfl rfl) ?_
          refine at_q rfl rfl (by decide) (qt_neq rfl rfl rfl) ?_
          refine at_end ?_
          refine at_no rfl (neSelf _) ?_
          refine at_skip ?_
          refine norm_then ?_
          refine at_seq ?_
          refine at_region ?_
          refine at_q rfl rfl (by decide) (qt_assign rfl rfl) ?_
          refine at_end ?_
          refine at_retc ?_
          refine at_ret1 rfl (.tmp rfl) ?_
          intro w' hs
          exact ⟨rfl, hs.fin⟩
end Go.Proofs.Ytcplmmoeglembaa
