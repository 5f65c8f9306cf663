/- Edges that only meet at their ends: both sides of IsSnapped. -/
import Derived.Test.YtakdjgldcpompaaMeet
import Derived.Test.YtakdjgldcpompaaLawKit
import Derived.Test.YtakdjgldcpompaaWind
namespace Go.Proofs.Ytakdjgldcpompaa
open Go Go.RowKit
set_option linter.unusedVariables false
set_option linter.unusedSimpArgs false
set_option maxRecDepth 100000
set_option maxHeartbeats 4000000
set_option linter.unusedVariables false

def lA (l : Leg) : Pn := (l.ax, l.ay)
def lB (l : Leg) : Pn := (l.bx, l.b_y)
theorem lA_ok {l : Leg} (h : legOk l) : bd2 (lA l) := ⟨h.1, h.2.1⟩
theorem lB_ok {l : Leg} (h : legOk l) : bd2 (lB l) := ⟨h.2.2.1, h.2.2.2⟩
abbrev legV (l : Leg) : Value := .agg #[.int .i64 l.ax, .int .i64 l.ay, .int .i64 l.bx, .int .i64 l.b_y]
def sameL (e f : Leg) : Bool := decide ((lA e = lA f ∧ lB e = lB f) ∨ (lA e = lB f ∧ lB e = lA f))
def pairL (e f : Leg) : Bool := pairI (lA e) (lB e) (lA f) (lB f)
theorem same1 {e f : Leg} (h : (e.ax == f.ax && e.ay == f.ay && e.bx == f.bx && e.b_y == f.b_y) = true) : true = sameL e f := by
  simp only [Bool.and_eq_true, beq_iff_eq] at h
  rw [Bool.eq_iff_iff]; simp only [sameL, lA, lB, Prod.mk.injEq, decide_eq_true_eq, true_iff]; omega
theorem same2 {e f : Leg} (h : (e.ax == f.ax && e.ay == f.ay && e.bx == f.bx && e.b_y == f.b_y) = false) (h2 : (e.ax == f.bx && e.ay == f.b_y) = true) : (e.bx == f.ax && e.b_y == f.ay) = sameL e f := by
  simp only [Bool.and_eq_true, beq_iff_eq] at h2
  simp only [Bool.and_eq_false_iff, beq_eq_false_iff_ne, ne_eq] at h
  rw [Bool.eq_iff_iff]; simp only [sameL, lA, lB, Prod.mk.injEq, decide_eq_true_eq, Bool.and_eq_true, beq_iff_eq]; omega
theorem same3 {e f : Leg} (h : (e.ax == f.ax && e.ay == f.ay && e.bx == f.bx && e.b_y == f.b_y) = false) (h2 : (e.ax == f.bx && e.ay == f.b_y) = false) : false = sameL e f := by
  simp only [Bool.and_eq_false_iff, beq_eq_false_iff_ne, ne_eq] at h h2
  rw [Bool.eq_iff_iff]; simp only [sameL, lA, lB, Prod.mk.injEq, decide_eq_true_eq, Bool.false_eq_true, false_iff]; omega
theorem pq {p : Pn} {x y : Int} : (p.1 == x && p.2 == y) = decide (p = (x, y)) := by
  rw [Bool.eq_iff_iff]; simp [Prod.ext_iff]
theorem pairL_same {e f : Leg} (h : sameL e f = true) : pairL e f = true := by
  simp only [sameL, decide_eq_true_eq] at h
  rw [pairL, pairI, if_pos h]
theorem pairL_touch {e f : Leg} (h : sameL e f = false) (k : (meetI (lA e) (lB e) (lA f) (lB f)).1 = 1) : pairL e f = ((decide ((meetI (lA e) (lB e) (lA f) (lB f)).2 = lA e) || decide ((meetI (lA e) (lB e) (lA f) (lB f)).2 = lB e)) && (decide ((meetI (lA e) (lB e) (lA f) (lB f)).2 = lA f) || decide ((meetI (lA e) (lB e) (lA f) (lB f)).2 = lB f))) := by
  simp only [sameL, decide_eq_false_iff_not] at h
  rw [pairL, pairI, if_neg h, if_pos k]
theorem pairL_touch' {e f : Leg} (h : sameL e f = false) (k : (meetI (lA e) (lB e) (lA f) (lB f)).1 = 1) : pairL e f = ((((meetI (lA e) (lB e) (lA f) (lB f)).2.1 == e.ax && (meetI (lA e) (lB e) (lA f) (lB f)).2.2 == e.ay) || ((meetI (lA e) (lB e) (lA f) (lB f)).2.1 == e.bx && (meetI (lA e) (lB e) (lA f) (lB f)).2.2 == e.b_y)) && (((meetI (lA e) (lB e) (lA f) (lB f)).2.1 == f.ax && (meetI (lA e) (lB e) (lA f) (lB f)).2.2 == f.ay) || ((meetI (lA e) (lB e) (lA f) (lB f)).2.1 == f.bx && (meetI (lA e) (lB e) (lA f) (lB f)).2.2 == f.b_y))) := by
  rw [pairL_touch h k]
  simp only [pq]
  rfl
theorem pairL_else {e f : Leg} (h : sameL e f = false) (k : ¬ (meetI (lA e) (lB e) (lA f) (lB f)).1 = 1) : pairL e f = ((meetI (lA e) (lB e) (lA f) (lB f)).1 == 0) := by
  simp only [sameL, decide_eq_false_iff_not] at h
  rw [pairL, pairI, if_neg h, if_neg k]
  rfl
theorem snappedPair_any (e f : Leg) (w : World) (he : legOk e) (hf : legOk f) : Calls Try.prog 68 #[legV e, legV f] w fun e' w' => e' = .returned (.bool (pairL e f)) ∧ Over w w' := by
  refine walk_from (m := 62) (Try.func68) rfl rfl (Nat.le_of_ble_eq_true rfl) ?_
  refine at_seq ?_
  refine at_region ?_
  refine at_op rfl ?_
  refine op_box rfl rfl (rfl) rfl (by decide) (fun b1 => ?_)
  refine at_rsE (by simp only [List.nil_append, List.cons_append, List.set_cons_zero, List.set_cons_succ, Value.cells, List.toList_toArray]; rfl) ?_
  refine at_op rfl ?_
  refine op_box rfl rfl (rfl) rfl (by decide) (fun b2 => ?_)
  refine at_rsE (by simp only [List.nil_append, List.cons_append, List.set_cons_zero, List.set_cons_succ, Value.cells, List.toList_toArray]; rfl) ?_
  refine at_q rfl rfl (by decide) (qt_assign rfl rfl) ?_
  refine at_end ?_
  refine at_seq ?_
  refine at_cutE [(23, .bool (sameL e f))] (C := [(2, _), (3, _), (4, _)])  ⟨rfl, rfl, rfl, trivial⟩ (fun L hC_cut_1 => ?_) ?_
  · refine at_region ?_
    refine at_q rfl rfl (by decide) (qt_loadS rfl rfl tys_impl_leg rfl (rdAll (k := 0) rfl)) ?_
    refine at_q rfl rfl (by decide) (qt_loadS rfl rfl tys_impl_leg rfl (rdAll (k := 1) rfl)) ?_
    refine at_q rfl rfl (by decide) (qt_eqlS_impl_leg rfl rfl rfl) ?_
    refine at_q rfl rfl (by decide) (qt_move rfl rfl) ?_
    refine at_bsplit 10 rfl (fun g1 => ?_) (fun g1 => ?_)
    · try simp only [decide_eq_true_eq, decide_eq_false_iff_not, beq_iff_eq, beq_eq_false_iff_ne, Bool.not_eq_true', Bool.not_eq_false', Bool.not_true, Bool.not_false, Int.not_lt, Int.not_le, ne_eq, Nat.not_lt, Nat.not_le] at g1
      refine at_off rfl rfl rfl rfl (by decide) rfl (by decide) ?_
      refine at_off rfl rfl rfl rfl (by decide) rfl (by decide) ?_
      refine at_off rfl rfl rfl rfl (by decide) rfl (by decide) ?_
      refine at_off rfl rfl rfl rfl (by decide) rfl (by decide) ?_
      refine at_off rfl rfl rfl rfl (by decide) rfl (by decide) ?_
      refine at_off rfl rfl rfl rfl (by decide) rfl (by decide) ?_
      refine at_offu rfl rfl rfl rfl rfl (by decide) ?_
      refine at_offu rfl rfl rfl rfl rfl (by decide) ?_
      refine at_offu rfl rfl rfl rfl rfl (by decide) ?_
      refine at_offu rfl rfl rfl rfl rfl (by decide) ?_
      refine at_offu rfl rfl rfl rfl rfl (by decide) ?_
      refine at_off rfl rfl rfl rfl (by decide) rfl (by decide) ?_
      refine at_q rfl rfl (by decide) (qt_pickT rfl rfl rfl) ?_
      refine at_end ?_
      exact at_meet hC_cut_1 ⟨vb (same1 g1), rfl, rfl, rfl, trivial⟩ (fun _ h => h.upto ⟨rfl, rfl, trivial⟩)
    · try simp only [decide_eq_true_eq, decide_eq_false_iff_not, beq_iff_eq, beq_eq_false_iff_ne, Bool.not_eq_true', Bool.not_eq_false', Bool.not_true, Bool.not_false, Int.not_lt, Int.not_le, ne_eq, Nat.not_lt, Nat.not_le] at g1
      refine at_on rfl rfl rfl rfl ?_
      refine op_q rfl (by decide) (qt_fieldAddr rfl rfl tyf_impl_leg_0) ?_
      refine at_on rfl rfl rfl rfl ?_
      refine op_q rfl (by decide) (qt_loadS rfl rfl tys_impl_Pt rfl (rd2 (k := 0) rfl rfl rfl)) ?_
      refine at_on rfl rfl rfl rfl ?_
      refine op_q rfl (by decide) (qt_fieldAddr rfl rfl tyf_impl_leg_1) ?_
      refine at_on rfl rfl rfl rfl ?_
      refine op_q rfl (by decide) (qt_loadS rfl rfl tys_impl_Pt rfl (rd2 (k := 1) rfl rfl rfl)) ?_
      refine at_on rfl rfl rfl rfl ?_
      refine op_q rfl (by decide) (qt_eqlS_impl_Pt rfl rfl rfl) ?_
      refine at_on rfl rfl rfl rfl ?_
      refine op_q rfl (by decide) (qt_move rfl rfl) ?_
      refine at_bsplit 16 rfl (fun g2 => ?_) (fun g2 => ?_)
      · try simp only [decide_eq_true_eq, decide_eq_false_iff_not, beq_iff_eq, beq_eq_false_iff_ne, Bool.not_eq_true', Bool.not_eq_false', Bool.not_true, Bool.not_false, Int.not_lt, Int.not_le, ne_eq, Nat.not_lt, Nat.not_le] at g2
        refine at_on rfl rfl rfl rfl ?_
        refine op_q rfl (by decide) (qt_fieldAddr rfl rfl tyf_impl_leg_1) ?_
        refine at_on rfl rfl rfl rfl ?_
        refine op_q rfl (by decide) (qt_loadS rfl rfl tys_impl_Pt rfl (rd2 (k := 0) rfl rfl rfl)) ?_
        refine at_on rfl rfl rfl rfl ?_
        refine op_q rfl (by decide) (qt_fieldAddr rfl rfl tyf_impl_leg_0) ?_
        refine at_on rfl rfl rfl rfl ?_
        refine op_q rfl (by decide) (qt_loadS rfl rfl tys_impl_Pt rfl (rd2 (k := 1) rfl rfl rfl)) ?_
        refine at_on rfl rfl rfl rfl ?_
        refine op_q rfl (by decide) (qt_eqlS_impl_Pt rfl rfl rfl) ?_
        refine at_on rfl rfl rfl rfl ?_
        refine op_q rfl (by decide) (qt_pickT rfl rfl rfl) ?_
        refine at_q rfl rfl (by decide) (qt_pickF rfl rfl rfl) ?_
        refine at_end ?_
        exact at_meet hC_cut_1 ⟨vb (same2 g1 g2), rfl, rfl, rfl, trivial⟩ (fun _ h => h.upto ⟨rfl, rfl, trivial⟩)
      · try simp only [decide_eq_true_eq, decide_eq_false_iff_not, beq_iff_eq, beq_eq_false_iff_ne, Bool.not_eq_true', Bool.not_eq_false', Bool.not_true, Bool.not_false, Int.not_lt, Int.not_le, ne_eq, Nat.not_lt, Nat.not_le] at g2
        refine at_off rfl rfl rfl rfl (by decide) rfl (by decide) ?_
        refine at_off rfl rfl rfl rfl (by decide) rfl (by decide) ?_
        refine at_off rfl rfl rfl rfl (by decide) rfl (by decide) ?_
        refine at_off rfl rfl rfl rfl (by decide) rfl (by decide) ?_
        refine at_off rfl rfl rfl rfl (by decide) rfl (by decide) ?_
        refine at_on rfl rfl rfl rfl ?_
        refine op_q rfl (by decide) (qt_pickF rfl rfl rfl) ?_
        refine at_q rfl rfl (by decide) (qt_pickF rfl rfl rfl) ?_
        refine at_end ?_
        exact at_meet hC_cut_1 ⟨vb (same3 g1 g2), rfl, rfl, rfl, trivial⟩ (fun _ h => h.upto ⟨rfl, rfl, trivial⟩)
  · refine at_envE (by simp only [List.nil_append, List.cons_append]; rfl) ?_
    refine at_cond rfl (fun c1 => ?_) (fun c1 => ?_)
    · try simp only [decide_eq_true_eq, decide_eq_false_iff_not, beq_iff_eq, beq_eq_false_iff_ne, Bool.not_eq_true', Bool.not_eq_false', Bool.not_true, Bool.not_false, Int.not_lt, Int.not_le, ne_eq, Nat.not_lt, Nat.not_le] at c1
      refine at_seq ?_
      refine at_region ?_
      refine at_q rfl rfl (by decide) (qt_assign rfl rfl) ?_
      refine at_end ?_
      refine at_retc ?_
      refine then_ret ?_
      refine at_ret1 rfl (.tmp rfl) ?_
      intro w' hs
      exact ⟨retB (pairL_same c1).symm, hs.fin⟩
    · try simp only [decide_eq_true_eq, decide_eq_false_iff_not, beq_iff_eq, beq_eq_false_iff_ne, Bool.not_eq_true', Bool.not_eq_false', Bool.not_true, Bool.not_false, Int.not_lt, Int.not_le, ne_eq, Nat.not_lt, Nat.not_le] at c1
      refine at_skip ?_
      refine norm_then ?_
      refine at_seq ?_
      refine at_region ?_
      refine at_q rfl rfl (by decide) (qt_fieldAddr rfl rfl tyf_impl_leg_0) ?_
      refine at_q rfl rfl (by decide) (qt_loadS rfl rfl tys_impl_Pt rfl (rd2 (k := 0) rfl rfl rfl)) ?_
      refine at_q rfl rfl (by decide) (qt_fieldAddr rfl rfl tyf_impl_leg_1) ?_
      refine at_q rfl rfl (by decide) (qt_loadS rfl rfl tys_impl_Pt rfl (rd2 (k := 0) rfl rfl rfl)) ?_
      refine at_q rfl rfl (by decide) (qt_fieldAddr rfl rfl tyf_impl_leg_0) ?_
      refine at_q rfl rfl (by decide) (qt_loadS rfl rfl tys_impl_Pt rfl (rd2 (k := 1) rfl rfl rfl)) ?_
      refine at_q rfl rfl (by decide) (qt_fieldAddr rfl rfl tyf_impl_leg_1) ?_
      refine at_q rfl rfl (by decide) (qt_loadS rfl rfl tys_impl_Pt rfl (rd2 (k := 1) rfl rfl rfl)) ?_
      refine at_q rfl rfl (by decide) (qt_call ok_impl_meeting rfl rfl (fun w h => meeting_any (lA e) (lB e) (lA f) (lB f) w (lA_ok he) (lB_ok he) (lA_ok hf) (lB_ok hf))) ?_
      refine at_q rfl rfl (by decide) (qt_move rfl rfl) ?_
      refine at_q rfl rfl (by decide) (qt_extract rfl rfl rfl) ?_
      refine at_q rfl rfl (by decide) (qt_extract rfl rfl rfl) ?_
      refine at_op rfl ?_
      refine op_alloc rfl tyz_impl_Pt rfl (by decide) (fun b3 => ?_)
      refine at_rsE (by simp only [List.nil_append, List.cons_append, List.set_cons_zero, List.set_cons_succ, Value.cells, List.toList_toArray]; rfl) ?_
      refine at_q rfl rfl (by decide) (qt_assign rfl rfl) ?_
      refine at_op rfl ?_
      refine op_storeAll' (k := 2) rfl rfl rfl rfl (rfl) (by rfl) tyz_impl_Pt.szx rfl rfl rfl ?_
      refine at_rsE (by simp only [List.nil_append, List.cons_append, List.set_cons_zero, List.set_cons_succ, Value.cells, List.toList_toArray]; rfl) ?_
      refine at_end ?_
      refine at_seq ?_
      refine at_seq ?_
      refine at_region ?_
      refine at_q rfl rfl (by decide) (qt_move rfl rfl) ?_
      refine at_q rfl rfl (by decide) (qt_eql rfl rfl rfl) ?_
      refine at_end ?_
      refine at_cond rfl (fun c2 => ?_) (fun c2 => ?_)
      · try simp only [decide_eq_true_eq, decide_eq_false_iff_not, beq_iff_eq, beq_eq_false_iff_ne, Bool.not_eq_true', Bool.not_eq_false', Bool.not_true, Bool.not_false, Int.not_lt, Int.not_le, ne_eq, Nat.not_lt, Nat.not_le] at c2
        have eT := pairL_touch' c1 c2
        refine at_seq ?_
        refine at_region ?_
        refine at_q rfl rfl (by decide) (qt_loadS rfl rfl tys_impl_Pt rfl (rdAll (k := 2) rfl)) ?_
        refine at_q rfl rfl (by decide) (qt_fieldAddr rfl rfl tyf_impl_leg_0) ?_
        refine at_q rfl rfl (by decide) (qt_loadS rfl rfl tys_impl_Pt rfl (rd2 (k := 0) rfl rfl rfl)) ?_
        refine at_q rfl rfl (by decide) (qt_eqlS_impl_Pt rfl rfl rfl) ?_
        refine at_q rfl rfl (by decide) (qt_move rfl rfl) ?_
        refine at_bsplit 42 rfl (fun g3 => ?_) (fun g3 => ?_)
        · try simp only [decide_eq_true_eq, decide_eq_false_iff_not, beq_iff_eq, beq_eq_false_iff_ne, Bool.not_eq_true', Bool.not_eq_false', Bool.not_true, Bool.not_false, Int.not_lt, Int.not_le, ne_eq, Nat.not_lt, Nat.not_le] at g3
          refine at_off rfl rfl rfl rfl (by decide) rfl (by decide) ?_
          refine at_off rfl rfl rfl rfl (by decide) rfl (by decide) ?_
          refine at_off rfl rfl rfl rfl (by decide) rfl (by decide) ?_
          refine at_off rfl rfl rfl rfl (by decide) rfl (by decide) ?_
          refine at_q rfl rfl (by decide) (qt_pickT rfl rfl rfl) ?_
          refine at_q rfl rfl (by decide) (qt_move rfl rfl) ?_
          refine at_on rfl rfl rfl rfl ?_
          refine op_q rfl (by decide) (qt_loadS rfl rfl tys_impl_Pt rfl (rdAll (k := 2) rfl)) ?_
          refine at_on rfl rfl rfl rfl ?_
          refine op_q rfl (by decide) (qt_fieldAddr rfl rfl tyf_impl_leg_0) ?_
          refine at_on rfl rfl rfl rfl ?_
          refine op_q rfl (by decide) (qt_loadS rfl rfl tys_impl_Pt rfl (rd2 (k := 1) rfl rfl rfl)) ?_
          refine at_on rfl rfl rfl rfl ?_
          refine op_q rfl (by decide) (qt_eqlS_impl_Pt rfl rfl rfl) ?_
          refine at_on rfl rfl rfl rfl ?_
          refine op_q rfl (by decide) (qt_move rfl rfl) ?_
          refine at_bsplit 53 rfl (fun g4 => ?_) (fun g4 => ?_)
          · try simp only [decide_eq_true_eq, decide_eq_false_iff_not, beq_iff_eq, beq_eq_false_iff_ne, Bool.not_eq_true', Bool.not_eq_false', Bool.not_true, Bool.not_false, Int.not_lt, Int.not_le, ne_eq, Nat.not_lt, Nat.not_le] at g4
            refine at_off rfl rfl rfl rfl (by decide) rfl (by decide) ?_
            refine at_off rfl rfl rfl rfl (by decide) rfl (by decide) ?_
            refine at_off rfl rfl rfl rfl (by decide) rfl (by decide) ?_
            refine at_off rfl rfl rfl rfl (by decide) rfl (by decide) ?_
            refine at_on rfl rfl rfl rfl ?_
            refine op_q rfl (by decide) (qt_pickT rfl rfl rfl) ?_
            refine at_q rfl rfl (by decide) (qt_pickT rfl rfl rfl) ?_
            refine at_q rfl rfl (by decide) (qt_assign rfl rfl) ?_
            refine at_end ?_
            refine at_retc ?_
            refine then_ret ?_
            refine at_ret1 rfl (.tmp rfl) ?_
            intro w' hs
            exact ⟨retB (by first | exact eL.symm | rw [eT]; simp only [*, Bool.true_or, Bool.false_or, Bool.true_and, Bool.false_and]), hs.fin⟩
          · try simp only [decide_eq_true_eq, decide_eq_false_iff_not, beq_iff_eq, beq_eq_false_iff_ne, Bool.not_eq_true', Bool.not_eq_false', Bool.not_true, Bool.not_false, Int.not_lt, Int.not_le, ne_eq, Nat.not_lt, Nat.not_le] at g4
            refine at_on rfl rfl rfl rfl ?_
            refine op_q rfl (by decide) (qt_loadS rfl rfl tys_impl_Pt rfl (rdAll (k := 2) rfl)) ?_
            refine at_on rfl rfl rfl rfl ?_
            refine op_q rfl (by decide) (qt_fieldAddr rfl rfl tyf_impl_leg_1) ?_
            refine at_on rfl rfl rfl rfl ?_
            refine op_q rfl (by decide) (qt_loadS rfl rfl tys_impl_Pt rfl (rd2 (k := 1) rfl rfl rfl)) ?_
            refine at_on rfl rfl rfl rfl ?_
            refine op_q rfl (by decide) (qt_eqlS_impl_Pt rfl rfl rfl) ?_
            refine at_on rfl rfl rfl rfl ?_
            refine op_q rfl (by decide) (qt_pickF rfl rfl rfl) ?_
            refine at_q rfl rfl (by decide) (qt_pickT rfl rfl rfl) ?_
            refine at_q rfl rfl (by decide) (qt_assign rfl rfl) ?_
            refine at_end ?_
            refine at_retc ?_
            refine then_ret ?_
            refine at_ret1 rfl (.tmp rfl) ?_
            intro w' hs
            exact ⟨retB (by first | exact eL.symm | rw [eT]; simp only [*, Bool.true_or, Bool.false_or, Bool.true_and, Bool.false_and]), hs.fin⟩
        · try simp only [decide_eq_true_eq, decide_eq_false_iff_not, beq_iff_eq, beq_eq_false_iff_ne, Bool.not_eq_true', Bool.not_eq_false', Bool.not_true, Bool.not_false, Int.not_lt, Int.not_le, ne_eq, Nat.not_lt, Nat.not_le] at g3
          refine at_on rfl rfl rfl rfl ?_
          refine op_q rfl (by decide) (qt_loadS rfl rfl tys_impl_Pt rfl (rdAll (k := 2) rfl)) ?_
          refine at_on rfl rfl rfl rfl ?_
          refine op_q rfl (by decide) (qt_fieldAddr rfl rfl tyf_impl_leg_1) ?_
          refine at_on rfl rfl rfl rfl ?_
          refine op_q rfl (by decide) (qt_loadS rfl rfl tys_impl_Pt rfl (rd2 (k := 0) rfl rfl rfl)) ?_
          refine at_on rfl rfl rfl rfl ?_
          refine op_q rfl (by decide) (qt_eqlS_impl_Pt rfl rfl rfl) ?_
          refine at_q rfl rfl (by decide) (qt_pickF rfl rfl rfl) ?_
          refine at_q rfl rfl (by decide) (qt_move rfl rfl) ?_
          refine at_bsplit 48 rfl (fun g5 => ?_) (fun g5 => ?_)
          · try simp only [decide_eq_true_eq, decide_eq_false_iff_not, beq_iff_eq, beq_eq_false_iff_ne, Bool.not_eq_true', Bool.not_eq_false', Bool.not_true, Bool.not_false, Int.not_lt, Int.not_le, ne_eq, Nat.not_lt, Nat.not_le] at g5
            refine at_on rfl rfl rfl rfl ?_
            refine op_q rfl (by decide) (qt_loadS rfl rfl tys_impl_Pt rfl (rdAll (k := 2) rfl)) ?_
            refine at_on rfl rfl rfl rfl ?_
            refine op_q rfl (by decide) (qt_fieldAddr rfl rfl tyf_impl_leg_0) ?_
            refine at_on rfl rfl rfl rfl ?_
            refine op_q rfl (by decide) (qt_loadS rfl rfl tys_impl_Pt rfl (rd2 (k := 1) rfl rfl rfl)) ?_
            refine at_on rfl rfl rfl rfl ?_
            refine op_q rfl (by decide) (qt_eqlS_impl_Pt rfl rfl rfl) ?_
            refine at_on rfl rfl rfl rfl ?_
            refine op_q rfl (by decide) (qt_move rfl rfl) ?_
            refine at_bsplit 53 rfl (fun g6 => ?_) (fun g6 => ?_)
            · try simp only [decide_eq_true_eq, decide_eq_false_iff_not, beq_iff_eq, beq_eq_false_iff_ne, Bool.not_eq_true', Bool.not_eq_false', Bool.not_true, Bool.not_false, Int.not_lt, Int.not_le, ne_eq, Nat.not_lt, Nat.not_le] at g6
              refine at_off rfl rfl rfl rfl (by decide) rfl (by decide) ?_
              refine at_off rfl rfl rfl rfl (by decide) rfl (by decide) ?_
              refine at_off rfl rfl rfl rfl (by decide) rfl (by decide) ?_
              refine at_off rfl rfl rfl rfl (by decide) rfl (by decide) ?_
              refine at_on rfl rfl rfl rfl ?_
              refine op_q rfl (by decide) (qt_pickT rfl rfl rfl) ?_
              refine at_q rfl rfl (by decide) (qt_pickT rfl rfl rfl) ?_
              refine at_q rfl rfl (by decide) (qt_assign rfl rfl) ?_
              refine at_end ?_
              refine at_retc ?_
              refine then_ret ?_
              refine at_ret1 rfl (.tmp rfl) ?_
              intro w' hs
              exact ⟨retB (by first | exact eL.symm | rw [eT]; simp only [*, Bool.true_or, Bool.false_or, Bool.true_and, Bool.false_and]), hs.fin⟩
            · try simp only [decide_eq_true_eq, decide_eq_false_iff_not, beq_iff_eq, beq_eq_false_iff_ne, Bool.not_eq_true', Bool.not_eq_false', Bool.not_true, Bool.not_false, Int.not_lt, Int.not_le, ne_eq, Nat.not_lt, Nat.not_le] at g6
              refine at_on rfl rfl rfl rfl ?_
              refine op_q rfl (by decide) (qt_loadS rfl rfl tys_impl_Pt rfl (rdAll (k := 2) rfl)) ?_
              refine at_on rfl rfl rfl rfl ?_
              refine op_q rfl (by decide) (qt_fieldAddr rfl rfl tyf_impl_leg_1) ?_
              refine at_on rfl rfl rfl rfl ?_
              refine op_q rfl (by decide) (qt_loadS rfl rfl tys_impl_Pt rfl (rd2 (k := 1) rfl rfl rfl)) ?_
              refine at_on rfl rfl rfl rfl ?_
              refine op_q rfl (by decide) (qt_eqlS_impl_Pt rfl rfl rfl) ?_
              refine at_on rfl rfl rfl rfl ?_
              refine op_q rfl (by decide) (qt_pickF rfl rfl rfl) ?_
              refine at_q rfl rfl (by decide) (qt_pickT rfl rfl rfl) ?_
              refine at_q rfl rfl (by decide) (qt_assign rfl rfl) ?_
              refine at_end ?_
              refine at_retc ?_
              refine then_ret ?_
              refine at_ret1 rfl (.tmp rfl) ?_
              intro w' hs
              exact ⟨retB (by first | exact eL.symm | rw [eT]; simp only [*, Bool.true_or, Bool.false_or, Bool.true_and, Bool.false_and]), hs.fin⟩
          · try simp only [decide_eq_true_eq, decide_eq_false_iff_not, beq_iff_eq, beq_eq_false_iff_ne, Bool.not_eq_true', Bool.not_eq_false', Bool.not_true, Bool.not_false, Int.not_lt, Int.not_le, ne_eq, Nat.not_lt, Nat.not_le] at g5
            refine at_off rfl rfl rfl rfl (by decide) rfl (by decide) ?_
            refine at_off rfl rfl rfl rfl (by decide) rfl (by decide) ?_
            refine at_off rfl rfl rfl rfl (by decide) rfl (by decide) ?_
            refine at_off rfl rfl rfl rfl (by decide) rfl (by decide) ?_
            refine at_off rfl rfl rfl rfl (by decide) rfl (by decide) ?_
            refine at_offu rfl rfl rfl rfl rfl (by decide) ?_
            refine at_offu rfl rfl rfl rfl rfl (by decide) ?_
            refine at_offu rfl rfl rfl rfl rfl (by decide) ?_
            refine at_offu rfl rfl rfl rfl rfl (by decide) ?_
            refine at_off rfl rfl rfl rfl (by decide) rfl (by decide) ?_
            refine at_q rfl rfl (by decide) (qt_pickF rfl rfl rfl) ?_
            refine at_q rfl rfl (by decide) (qt_assign rfl rfl) ?_
            refine at_end ?_
            refine at_retc ?_
            refine then_ret ?_
            refine at_ret1 rfl (.tmp rfl) ?_
            intro w' hs
            exact ⟨retB (by first | exact eL.symm | rw [eT]; simp only [*, Bool.true_or, Bool.false_or, Bool.true_and, Bool.false_and]), hs.fin⟩
      · try simp only [decide_eq_true_eq, decide_eq_false_iff_not, beq_iff_eq, beq_eq_false_iff_ne, Bool.not_eq_true', Bool.not_eq_false', Bool.not_true, Bool.not_false, Int.not_lt, Int.not_le, ne_eq, Nat.not_lt, Nat.not_le] at c2
        have eL := pairL_else c1 c2
        refine at_skip ?_
        refine norm_then ?_
        refine at_seq ?_
        refine at_region ?_
        refine at_q rfl rfl (by decide) (qt_move rfl rfl) ?_
        refine at_q rfl rfl (by decide) (qt_eql rfl rfl rfl) ?_
        refine at_q rfl rfl (by decide) (qt_assign rfl rfl) ?_
        refine at_end ?_
        refine at_retc ?_
        refine at_ret1 rfl (.tmp rfl) ?_
        intro w' hs
        exact ⟨retB (by first | exact eL.symm | rw [eT]; simp only [*, Bool.true_or, Bool.false_or, Bool.true_and, Bool.false_and]), hs.fin⟩

theorem lt_succ_all {P : Nat → Prop} {k : Nat} (h : ∀ q, q < k → P q) (hk : P k) : ∀ q, q < k + 1 → P q := fun q hq => by
  rcases Nat.lt_or_ge q k with h1 | h1
  · exact h q h1
  · obtain rfl : q = k := by omega
    exact hk
theorem slicedH (b o h cap s : Nat) : sliced (some ⟨b, o, none⟩) 0 h cap s = .slice (some ⟨b, o, none⟩) h cap := by
  unfold sliced
  simp [add_none]
theorem rowSome {w : World} {w0 : Bs} {Rs : List Res} {k B T s n : Nat} {x : Option Addr × Nat} {xs : List Value} (hk : Rs[k]? = some (rowR B T s n xs x)) (hs : St w0 Rs w) (hn : 0 < n) : ∃ g, x.1 = some ⟨g, 0, none⟩ := by
  have h : w.ownsRow B T s (.slice x.1 n x.2) n xs := (hs.all k _ hk).1
  rcases h.2 with ⟨_, e⟩ | ⟨g, cap, cur, e, _⟩
  · omega
  · injection e with e1
    exact ⟨g, e1⟩
def snapAll (ls : List Leg) : Bool := (List.range ls.length).all fun i => (List.range i).all fun k => pairL (lg ls i) (lg ls k)
theorem snapAll_no {ls : List Leg} {i k : Nat} (hi : i < ls.length) (hk : k < i) (h : pairL (lg ls i) (lg ls k) = false) : false = snapAll ls := by
  symm
  rw [snapAll, List.all_eq_false]
  refine ⟨i, List.mem_range.2 hi, ?_⟩
  rw [Bool.not_eq_true, List.all_eq_false]
  exact ⟨k, List.mem_range.2 hk, by simp [h]⟩
theorem snapAll_yes {ls : List Leg} (h : ∀ i, i < ls.length → ∀ k, k < i → pairL (lg ls i) (lg ls k) = true) : true = snapAll ls := by
  symm
  rw [snapAll, List.all_eq_true]
  intro i hi
  rw [List.all_eq_true]
  intro k hk
  exact h i (List.mem_range.1 hi) k (List.mem_range.1 hk)
theorem edgesTo_ne (xs : List (Int × Int)) : ∀ k, ∀ l ∈ edgesTo xs k, lA l ≠ lB l
  | 0, l, hl => by simp [edgesTo] at hl
  | k + 1, l, hl => by
    rw [edgesTo_succ] at hl
    split at hl
    · exact edgesTo_ne xs k l hl
    · rename_i h
      rcases List.mem_append.1 hl with h1 | h1
      · exact edgesTo_ne xs k l h1
      · rw [List.mem_singleton.1 h1]
        intro e
        simp only [lA, lB, Prod.mk.injEq] at e
        exact h e
theorem allTo_ne (rs : List Ring_) : ∀ k, ∀ l ∈ allTo rs k, lA l ≠ lB l
  | 0, l, hl => by simp [allTo] at hl
  | k + 1, l, hl => by
    simp only [allTo, List.mem_append] at hl
    rcases hl with h | h
    · exact allTo_ne rs k l h
    · exact edgesTo_ne _ _ l h
def isnB (rs : List Ring_) : Bool := regionB rs && snapAll (edgesAll rs)
theorem IsSnapped_any (A : Option Addr) (n c : Nat) (rs : List Ring_) (w : World) (h : Rings w A n rs) (ht : (total rs : Int) ≤ 1048577) :
    Calls Try.prog 38 #[regV A n c] w fun e w' => e = .returned (.bool (isnB rs)) ∧ Over w w' := by
  have hl := h.1
  refine walk_from (m := 34) (Try.func38) rfl rfl (Nat.le_of_ble_eq_true rfl) ?_
  refine at_seq ?_
  refine at_region ?_
  refine at_op rfl ?_
  refine op_box rfl rfl (rfl) rfl (by decide) (fun b1 => ?_)
  refine at_rsE (by simp only [List.nil_append, List.cons_append, List.set_cons_zero, List.set_cons_succ, Value.cells, List.toList_toArray]; rfl) ?_
  refine at_q rfl rfl (by decide) (qt_assign rfl rfl) ?_
  refine at_end ?_
  refine at_seq ?_
  refine at_seq ?_
  refine at_region ?_
  refine at_q rfl rfl (by decide) (qt_loadS rfl rfl tys_impl_Region rfl (rdAll (k := 0) rfl)) ?_
  refine at_q rfl rfl (by decide) (qt_call ok_impl_ValidRegion rfl rfl (fun w1 hs => ValidRegion_any A n c rs w1 (h.over hs.fin) ht)) ?_
  refine at_q rfl rfl (by decide) (qt_not rfl rfl) ?_
  refine at_end ?_
  refine at_cond rfl (fun c1 => ?_) (fun c1 => ?_)
  · try simp only [decide_eq_true_eq, decide_eq_false_iff_not, beq_iff_eq, beq_eq_false_iff_ne, Bool.not_eq_true', Bool.not_eq_false', Bool.not_true, Bool.not_false, Int.not_lt, Int.not_le, ne_eq, Nat.not_lt, Nat.not_le] at c1
    refine at_seq ?_
    refine at_region ?_
    refine at_q rfl rfl (by decide) (qt_assign rfl rfl) ?_
    refine at_end ?_
    refine at_retc ?_
    refine then_ret ?_
    refine at_ret1 rfl (.tmp rfl) ?_
    intro w' hs
    exact ⟨by simp [isnB, c1], hs.fin⟩
  · try simp only [decide_eq_true_eq, decide_eq_false_iff_not, beq_iff_eq, beq_eq_false_iff_ne, Bool.not_eq_true', Bool.not_eq_false', Bool.not_true, Bool.not_false, Int.not_lt, Int.not_le, ne_eq, Nat.not_lt, Nat.not_le] at c1
    have hr : regionB rs = true := by simpa using c1
    have hok := regOk hr
    have hal := allLen hr
    have eB : isnB rs = snapAll (edgesAll rs) := by rw [isnB, hr]; rfl
    refine at_skip ?_
    refine norm_then ?_
    refine at_seq ?_
    refine at_region ?_
    refine at_q rfl rfl (by decide) (qt_loadS rfl rfl tys_impl_Region rfl (rdAll (k := 0) rfl)) ?_
    refine at_op rfl ?_
    refine op_call ok_impl_edgesOf (v := fun x => .slice x.1 _ x.2) (r := fun x => rowR 0 78 4 _ _ x) (H := fun _ => True) rfl rfl rfl (by decide) (fun w1 hs => newRow' (edgesOf_any A n c rs w1 (h.over hs.fin) ht)) ?_
    rintro ⟨eA, ec⟩ -
    refine at_rsE (by simp only [List.nil_append, List.cons_append, List.set_cons_zero, List.set_cons_succ, Value.cells, List.toList_toArray]; rfl) ?_
    refine at_q rfl rfl (by decide) (qt_assign rfl rfl) ?_
    refine at_end ?_
    refine at_seq ?_
    refine at_seq ?_
    obtain ⟨ls, hls⟩ : ∃ ls, edgesAll rs = ls := ⟨_, rfl⟩
    rw [hls] at hok hal eB
    rw [hls]
    refine at_region ?_
    refine at_q rfl rfl (by decide) (qt_move rfl rfl) ?_
    refine at_q rfl rfl (by decide) (qt_len rfl rfl tyl_sl_impl_leg) ?_
    refine at_q rfl rfl (by decide) (qt_move rfl rfl) ?_
    refine at_end ?_
    refine at_block ?_
    refine at_loopc (X := Nat) (fun i => i ≤ ls.length ∧ ∀ q, q < i → ∀ k, k < q → pairL (lg ls q) (lg ls k) = true) (fun i => ls.length - i) (fun i => [(15, .int .i64 (i : Int))]) (C := [(2, _), (3, _), (13, _), (14, _)]) ⟨rfl, rfl, rfl, rfl, trivial⟩ (fun i => [.cel b1 44 [.slice A n c], rowR 0 78 4 ls.length (ls.flatMap legCells) (eA, ec)]) 0 (⟨Nat.zero_le _, fun q hq => absurd hq (by omega)⟩) ⟨rfl, rfl, rfl, rfl, rfl, trivial⟩ (fun _ h => h) ?_
    intro i hi L hL1
    refine at_envE (by simp only [List.nil_append, List.cons_append]; rfl) ?_
    refine at_rsE (by first | (dsimp only; done) | (dsimp only; rfl) | rfl) ?_
    refine at_seq ?_
    refine at_region ?_
    refine at_q rfl rfl (by decide) (qt_lss rfl rfl rfl) ?_
    refine at_end ?_
    refine at_seq ?_
    refine at_cond rfl (fun c2 => ?_) (fun c2 => ?_)
    · try simp only [decide_eq_true_eq, decide_eq_false_iff_not, beq_iff_eq, beq_eq_false_iff_ne, Bool.not_eq_true', Bool.not_eq_false', Bool.not_true, Bool.not_false, Int.not_lt, Int.not_le, ne_eq, Nat.not_lt, Nat.not_le] at c2
      have hlt : i < ls.length := (by omega)
      refine at_fact (fun w hs => rowSome (k := 1) rfl hs (by omega)) ?_
      rintro ⟨eg, rfl⟩
      refine at_fact (fun w hs => rowCap (hs.all 1 _ rfl).1) ?_
      intro hcap
      refine at_skip ?_
      refine norm_then ?_
      refine at_seq ?_
      refine at_block ?_
      refine at_seq ?_
      refine at_region ?_
      refine at_q rfl rfl (by decide) (qt_move rfl rfl) ?_
      refine at_q rfl rfl (by decide) (qt_index rfl rfl rfl tyl_sl_impl_leg (by omega)) ?_
      refine at_q rfl rfl (by decide) (qt_loadS rfl rfl tys_impl_leg rfl (rdLeg (fun w' hs => rowLegs (k := 1) rfl rfl w' hs) hlt)) ?_
      refine at_op rfl ?_
      refine op_alloc rfl tyz_impl_leg rfl (by decide) (fun b2 => ?_)
      refine at_rsE (by simp only [List.nil_append, List.cons_append, List.set_cons_zero, List.set_cons_succ, Value.cells, List.toList_toArray]; rfl) ?_
      refine at_q rfl rfl (by decide) (qt_assign rfl rfl) ?_
      refine at_op rfl ?_
      refine op_storeAll' (k := 2) rfl rfl rfl rfl (rfl) (by rfl) tyz_impl_leg.szx rfl rfl rfl ?_
      refine at_rsE (by simp only [List.nil_append, List.cons_append, List.set_cons_zero, List.set_cons_succ, Value.cells, List.toList_toArray]; rfl) ?_
      refine at_end ?_
      refine at_seq ?_
      refine at_region ?_
      refine at_q rfl rfl (by decide) (qt_move rfl rfl) ?_
      refine at_q rfl rfl (by decide) (qt_move rfl rfl) ?_
      refine at_q rfl rfl (by decide) ((qt_sliceH rfl rfl rfl tyl_sl_impl_leg (by omega)).as (slicedH _ _ _ _ _)) ?_
      refine at_q rfl rfl (by decide) (qt_len rfl rfl tyl_sl_impl_leg) ?_
      refine at_q rfl rfl (by decide) (qt_move rfl rfl) ?_
      refine at_end ?_
      refine at_block ?_
      refine at_loopc (X := Nat) (fun k => k ≤ i ∧ ∀ q, q < k → pairL (lg ls i) (lg ls q) = true) (fun k => i - k) (fun k => [(24, .int .i64 (k : Int))]) (C := [(2, _), (3, _), (13, _), (14, _), (15, _), (16, _), (17, _), (18, _), (19, _), (5, _), (4, _), (20, _), (21, _), (22, _), (23, _)]) ⟨rfl, rfl, rfl, rfl, rfl, rfl, rfl, rfl, rfl, rfl, rfl, rfl, rfl, rfl, rfl, trivial⟩ (fun k => [.cel b1 44 [.slice A n c], rowR 0 78 4 ls.length (ls.flatMap legCells) (some ⟨eg, 0, none⟩, ec), .cel b2 78 (legCells (lg ls i))]) 0 (⟨Nat.zero_le _, fun q hq => absurd hq (by omega)⟩) ⟨rfl, rfl, rfl, rfl, rfl, rfl, rfl, rfl, rfl, rfl, rfl, rfl, rfl, rfl, rfl, rfl, trivial⟩ (fun _ h => h) ?_
      intro k hk L hL2
      refine at_envE (by simp only [List.nil_append, List.cons_append]; rfl) ?_
      refine at_rsE (by first | (dsimp only; done) | (dsimp only; rfl) | rfl) ?_
      refine at_seq ?_
      refine at_region ?_
      refine at_q rfl rfl (by decide) (qt_lss rfl rfl rfl) ?_
      refine at_end ?_
      refine at_seq ?_
      refine at_cond rfl (fun c3 => ?_) (fun c3 => ?_)
      · try simp only [decide_eq_true_eq, decide_eq_false_iff_not, beq_iff_eq, beq_eq_false_iff_ne, Bool.not_eq_true', Bool.not_eq_false', Bool.not_true, Bool.not_false, Int.not_lt, Int.not_le, ne_eq, Nat.not_lt, Nat.not_le] at c3
        have hkt : k < i := (by omega)
        refine at_skip ?_
        refine norm_then ?_
        refine at_seq ?_
        refine at_block ?_
        refine at_seq ?_
        refine at_region ?_
        refine at_q rfl rfl (by decide) (qt_index rfl rfl rfl tyl_sl_impl_leg (by omega)) ?_
        refine at_q rfl rfl (by decide) (qt_loadS rfl rfl tys_impl_leg rfl (rdLeg (fun w' hs => rowLegs (k := 1) rfl rfl w' hs) (show k < ls.length by omega))) ?_
        refine at_op rfl ?_
        refine op_alloc rfl tyz_impl_leg rfl (by decide) (fun b3 => ?_)
        refine at_rsE (by simp only [List.nil_append, List.cons_append, List.set_cons_zero, List.set_cons_succ, Value.cells, List.toList_toArray]; rfl) ?_
        refine at_op rfl ?_
        refine op_storeAll' (k := 3) rfl rfl rfl rfl (rfl) (by rfl) tyz_impl_leg.szx rfl rfl rfl ?_
        refine at_rsE (by simp only [List.nil_append, List.cons_append, List.set_cons_zero, List.set_cons_succ, Value.cells, List.toList_toArray]; rfl) ?_
        refine at_end ?_
        refine at_seq ?_
        refine at_region ?_
        refine at_q rfl rfl (by decide) (qt_loadS rfl rfl tys_impl_leg rfl (rdAll (k := 2) rfl)) ?_
        refine at_q rfl rfl (by decide) (qt_loadS rfl rfl tys_impl_leg rfl (rdAll (k := 3) rfl)) ?_
        refine at_q rfl rfl (by decide) (qt_call ok_impl_snappedPair rfl rfl (fun w h => snappedPair_any (lg ls i) (lg ls k) w (lg_ok hok (by omega)) (lg_ok hok (by omega)))) ?_
        refine at_q rfl rfl (by decide) (qt_not rfl rfl) ?_
        refine at_end ?_
        refine at_cond rfl (fun c4 => ?_) (fun c4 => ?_)
        · try simp only [decide_eq_true_eq, decide_eq_false_iff_not, beq_iff_eq, beq_eq_false_iff_ne, Bool.not_eq_true', Bool.not_eq_false', Bool.not_true, Bool.not_false, Int.not_lt, Int.not_le, ne_eq, Nat.not_lt, Nat.not_le] at c4
          refine at_seq ?_
          refine at_region ?_
          refine at_q rfl rfl (by decide) (qt_assign rfl rfl) ?_
          refine at_end ?_
          refine at_retc ?_
          refine pass_ret ?_
          refine then_ret ?_
          refine then_ret ?_
          refine pass_ret ?_
          refine pass_ret ?_
          refine then_ret ?_
          refine then_ret ?_
          refine pass_ret ?_
          refine then_ret ?_
          refine at_ret1 rfl (.tmp rfl) ?_
          intro w' hs
          exact ⟨retB (by rw [eB]; exact snapAll_no hlt hkt (by simpa using c4)), hs.fin⟩
        · try simp only [decide_eq_true_eq, decide_eq_false_iff_not, beq_iff_eq, beq_eq_false_iff_ne, Bool.not_eq_true', Bool.not_eq_false', Bool.not_true, Bool.not_false, Int.not_lt, Int.not_le, ne_eq, Nat.not_lt, Nat.not_le] at c4
          refine at_skip ?_
          refine norm_block ?_
          refine norm_then ?_
          refine at_region ?_
          refine at_q rfl rfl (by decide) (qt_add rfl rfl rfl (by omega) (by omega)) ?_
          refine at_q rfl rfl (by decide) (qt_move rfl rfl) ?_
          refine at_end ?_
          exact at_againc hL2 (k + 1) (⟨by omega, lt_succ_all hk.2 (by simpa using c4)⟩) (by omega) ⟨vi (by omega), rfl, rfl, rfl, rfl, rfl, rfl, rfl, rfl, rfl, rfl, rfl, rfl, rfl, rfl, rfl, trivial⟩ (fun _ h => h.upto ⟨rfl, rfl, rfl, trivial⟩)
      · try simp only [decide_eq_true_eq, decide_eq_false_iff_not, beq_iff_eq, beq_eq_false_iff_ne, Bool.not_eq_true', Bool.not_eq_false', Bool.not_true, Bool.not_false, Int.not_lt, Int.not_le, ne_eq, Nat.not_lt, Nat.not_le] at c3
        refine at_exit ?_
        refine pass_then (fun h => by cases h) ?_
        refine pass_then (fun h => by cases h) ?_
        refine pass_hit ?_
        refine norm_block ?_
        refine norm_then ?_
        refine at_region ?_
        refine at_q rfl rfl (by decide) (qt_add rfl rfl rfl (by omega) (by omega)) ?_
        refine at_q rfl rfl (by decide) (qt_move rfl rfl) ?_
        refine at_end ?_
        exact at_againc hL1 (i + 1) (⟨by omega, lt_succ_all (P := fun q => ∀ k, k < q → pairL (lg ls q) (lg ls k) = true) hi.2 (fun p hp => hk.2 p (by omega))⟩) (by omega) ⟨vi (by omega), rfl, rfl, rfl, rfl, trivial⟩ (fun _ h => h.upto ⟨rfl, rfl, trivial⟩)
    · try simp only [decide_eq_true_eq, decide_eq_false_iff_not, beq_iff_eq, beq_eq_false_iff_ne, Bool.not_eq_true', Bool.not_eq_false', Bool.not_true, Bool.not_false, Int.not_lt, Int.not_le, ne_eq, Nat.not_lt, Nat.not_le] at c2
      refine at_exit ?_
      refine pass_then (fun h => by cases h) ?_
      refine pass_then (fun h => by cases h) ?_
      refine pass_hit ?_
      refine norm_then ?_
      refine at_seq ?_
      refine at_region ?_
      refine at_q rfl rfl (by decide) (qt_assign rfl rfl) ?_
      refine at_end ?_
      refine at_retc ?_
      refine at_ret1 rfl (.tmp rfl) ?_
      intro w' hs
      exact ⟨retB (by rw [eB]; exact snapAll_yes fun q hq => hi.2 q (by omega)), hs.fin⟩
end Go.Proofs.Ytakdjgldcpompaa
