/- Snapped regions; drawn regions of quiet operations. -/
import Derived.Test.YtcigocejgmafjaaMeet
import Derived.Test.YtcigocejgmafjaaLawKit
import Derived.Test.YtcigocejgmafjaaWind
import Derived.Test.YtcigocejgmafjaaReg3
import Derived.Still
namespace Go.Proofs.Ytcigocejgmafjaa
open Go Go.RowKit
set_option linter.unusedVariables false
set_option linter.unusedSimpArgs false
set_option maxRecDepth 100000
set_option maxHeartbeats 4000000
set_option linter.unusedVariables false

def lA (l : Leg) : Pn := (l.ax, l.ay)
def lB (l : Leg) : Pn := (l.bx, l.b_y)
theorem lA_ok {l : Leg} (h : legOk l) : bd2 (lA l) := ⟨h.1, h.2.1⟩
theorem lB_ok {l : Leg} (h : legOk l) : bd2 (lB l) := ⟨h.2.2.1, h.2.2.2⟩
abbrev legV (l : Leg) : Value := .agg #[.int .i64 l.ax, .int .i64 l.ay, .int .i64 l.bx, .int .i64 l.b_y]
def sameL (e f : Leg) : Bool := decide ((lA e = lA f ∧ lB e = lB f) ∨ (lA e = lB f ∧ lB e = lA f))
def pairL (e f : Leg) : Bool := pairI (lA e) (lB e) (lA f) (lB f)
theorem same1 {e f : Leg} (h : (e.ax == f.ax && e.ay == f.ay && e.bx == f.bx && e.b_y == f.b_y) = true) : true = sameL e f := by
 simp only [Bool.and_eq_true, beq_iff_eq] at h
 rw [Bool.eq_iff_iff]; simp only [sameL, lA, lB, Prod.mk.injEq, decide_eq_true_eq, true_iff]; omega
theorem same2 {e f : Leg} (h : (e.ax == f.ax && e.ay == f.ay && e.bx == f.bx && e.b_y == f.b_y) = false) (h2 : (e.ax == f.bx && e.ay == f.b_y) = true) : (e.bx == f.ax && e.b_y == f.ay) = sameL e f := by
 simp only [Bool.and_eq_true, beq_iff_eq] at h2
 simp only [Bool.and_eq_false_iff, beq_eq_false_iff_ne, ne_eq] at h
 rw [Bool.eq_iff_iff]; simp only [sameL, lA, lB, Prod.mk.injEq, decide_eq_true_eq, Bool.and_eq_true, beq_iff_eq]; omega
theorem same3 {e f : Leg} (h : (e.ax == f.ax && e.ay == f.ay && e.bx == f.bx && e.b_y == f.b_y) = false) (h2 : (e.ax == f.bx && e.ay == f.b_y) = false) : false = sameL e f := by
 simp only [Bool.and_eq_false_iff, beq_eq_false_iff_ne, ne_eq] at h h2
 rw [Bool.eq_iff_iff]; simp only [sameL, lA, lB, Prod.mk.injEq, decide_eq_true_eq, Bool.false_eq_true, false_iff]; omega
theorem pq {p : Pn} {x y : Int} : (p.1 == x && p.2 == y) = decide (p = (x, y)) := by
 rw [Bool.eq_iff_iff]; simp [Prod.ext_iff]
theorem pairL_same {e f : Leg} (h : sameL e f = true) : pairL e f = true := by
 simp only [sameL, decide_eq_true_eq] at h
 rw [pairL, pairI, if_pos h]
theorem pairL_touch {e f : Leg} (h : sameL e f = false) (k : (meetI (lA e) (lB e) (lA f) (lB f)).1 = 1) : pairL e f = ((decide ((meetI (lA e) (lB e) (lA f) (lB f)).2 = lA e) || decide ((meetI (lA e) (lB e) (lA f) (lB f)).2 = lB e)) && (decide ((meetI (lA e) (lB e) (lA f) (lB f)).2 = lA f) || decide ((meetI (lA e) (lB e) (lA f) (lB f)).2 = lB f))) := by
 simp only [sameL, decide_eq_false_iff_not] at h
 rw [pairL, pairI, if_neg h, if_pos k]
theorem pairL_touch' {e f : Leg} (h : sameL e f = false) (k : (meetI (lA e) (lB e) (lA f) (lB f)).1 = 1) : pairL e f = ((((meetI (lA e) (lB e) (lA f) (lB f)).2.1 == e.ax && (meetI (lA e) (lB e) (lA f) (lB f)).2.2 == e.ay) || ((meetI (lA e) (lB e) (lA f) (lB f)).2.1 == e.bx && (meetI (lA e) (lB e) (lA f) (lB f)).2.2 == e.b_y)) && (((meetI (lA e) (lB e) (lA f) (lB f)).2.1 == f.ax && (meetI (lA e) (lB e) (lA f) (lB f)).2.2 == f.ay) || ((meetI (lA e) (lB e) (lA f) (lB f)).2.1 == f.bx && (meetI (lA e) (lB e) (lA f) (lB f)).2.2 == f.b_y))) := by
 rw [pairL_touch h k]
 simp only [pq]
 rfl
theorem pairL_else {e f : Leg} (h : sameL e f = false) (k : ¬ (meetI (lA e) (lB e) (lA f) (lB f)).1 = 1) : pairL e f = ((meetI (lA e) (lB e) (lA f) (lB f)).1 == 0) := by
 simp only [sameL, decide_eq_false_iff_not] at h
 rw [pairL, pairI, if_neg h, if_neg k]
 rfl
theorem snappedPair_any (e f : Leg) (w : World) (he : legOk e) (hf : legOk f) : Calls Try.prog 38 #[legV e, legV f] w fun e' w' => e' = .returned (.bool (pairL e f)) ∧ Over w w' := by
 refine walk_from (m := 62) (Try.func38) rfl rfl (Nat.le_of_ble_eq_true rfl) ?_
 refine at_seq ?_
 refine at_region ?_
 refine at_op rfl ?_
 refine op_box rfl rfl (rfl) rfl (by decide) (fun b1 => ?_)
 refine at_rsE (by simp only [ya,yb,yc,yd,Value.cells,ye]; rfl) ?_
 refine at_op rfl ?_
 refine op_box rfl rfl (rfl) rfl (by decide) (fun b2 => ?_)
 refine at_rsE (by simp only [ya,yb,yc,yd,Value.cells,ye]; rfl) ?_
 refine at_q rfl rfl (by decide) (qt_assign rfl rfl) ?_
 refine at_end ?_
 refine at_seq ?_
 refine at_cutE [(23, .bool (sameL e f))] (C := [(2, _), (3, _), (4, _)])  ⟨rfl, rfl, rfl, trivial⟩ (fun L hC_cut_1 => ?_) ?_
 ·refine at_region ?_
  refine at_q rfl rfl (by decide) (qt_loadS rfl rfl tys_impl_leg rfl (rdAll (k := 0) rfl)) ?_
  refine at_q rfl rfl (by decide) (qt_loadS rfl rfl tys_impl_leg rfl (rdAll (k := 1) rfl)) ?_
  refine at_q rfl rfl (by decide) (qt_eqlS_impl_leg rfl rfl rfl) ?_
  refine at_q rfl rfl (by decide) (qt_move rfl rfl) ?_
  refine at_bsplit 10 rfl (fun g1 => ?_) (fun g1 => ?_)
  ·try simp only [za,zb,zc,zd,ze,zf,Bool.not_true,Bool.not_false,zg,zh,ne_eq,zi,zj] at g1
   refine at_off rfl rfl rfl rfl (by decide) rfl (by decide) ?_
   refine at_off rfl rfl rfl rfl (by decide) rfl (by decide) ?_
   refine at_off rfl rfl rfl rfl (by decide) rfl (by decide) ?_
   refine at_off rfl rfl rfl rfl (by decide) rfl (by decide) ?_
   refine at_off rfl rfl rfl rfl (by decide) rfl (by decide) ?_
   refine at_off rfl rfl rfl rfl (by decide) rfl (by decide) ?_
   refine at_offu rfl rfl rfl rfl rfl (by decide) ?_
   refine at_offu rfl rfl rfl rfl rfl (by decide) ?_
   refine at_offu rfl rfl rfl rfl rfl (by decide) ?_
   refine at_offu rfl rfl rfl rfl rfl (by decide) ?_
   refine at_offu rfl rfl rfl rfl rfl (by decide) ?_
   refine at_off rfl rfl rfl rfl (by decide) rfl (by decide) ?_
   refine at_q rfl rfl (by decide) (qt_pickT rfl rfl rfl) ?_
   refine at_end ?_
   exact at_meet hC_cut_1 ⟨vb (same1 g1), rfl, rfl, rfl, trivial⟩ (fun _ h => h.upto ⟨rfl, rfl, trivial⟩)
  ·try simp only [za,zb,zc,zd,ze,zf,Bool.not_true,Bool.not_false,zg,zh,ne_eq,zi,zj] at g1
   refine at_on rfl rfl rfl rfl ?_
   refine op_q rfl (by decide) (qt_fieldAddr rfl rfl tyf_impl_leg_0) ?_
   refine at_on rfl rfl rfl rfl ?_
   refine op_q rfl (by decide) (qt_loadS rfl rfl tys_impl_Pt rfl (rd2 (k := 0) rfl rfl rfl)) ?_
   refine at_on rfl rfl rfl rfl ?_
   refine op_q rfl (by decide) (qt_fieldAddr rfl rfl tyf_impl_leg_1) ?_
   refine at_on rfl rfl rfl rfl ?_
   refine op_q rfl (by decide) (qt_loadS rfl rfl tys_impl_Pt rfl (rd2 (k := 1) rfl rfl rfl)) ?_
   refine at_on rfl rfl rfl rfl ?_
   refine op_q rfl (by decide) (qt_eqlS_impl_Pt rfl rfl rfl) ?_
   refine at_on rfl rfl rfl rfl ?_
   refine op_q rfl (by decide) (qt_move rfl rfl) ?_
   refine at_bsplit 16 rfl (fun g2 => ?_) (fun g2 => ?_)
   ·try simp only [za,zb,zc,zd,ze,zf,Bool.not_true,Bool.not_false,zg,zh,ne_eq,zi,zj] at g2
    refine at_on rfl rfl rfl rfl ?_
    refine op_q rfl (by decide) (qt_fieldAddr rfl rfl tyf_impl_leg_1) ?_
    refine at_on rfl rfl rfl rfl ?_
    refine op_q rfl (by decide) (qt_loadS rfl rfl tys_impl_Pt rfl (rd2 (k := 0) rfl rfl rfl)) ?_
    refine at_on rfl rfl rfl rfl ?_
    refine op_q rfl (by decide) (qt_fieldAddr rfl rfl tyf_impl_leg_0) ?_
    refine at_on rfl rfl rfl rfl ?_
    refine op_q rfl (by decide) (qt_loadS rfl rfl tys_impl_Pt rfl (rd2 (k := 1) rfl rfl rfl)) ?_
    refine at_on rfl rfl rfl rfl ?_
    refine op_q rfl (by decide) (qt_eqlS_impl_Pt rfl rfl rfl) ?_
    refine at_on rfl rfl rfl rfl ?_
    refine op_q rfl (by decide) (qt_pickT rfl rfl rfl) ?_
    refine at_q rfl rfl (by decide) (qt_pickF rfl rfl rfl) ?_
    refine at_end ?_
    exact at_meet hC_cut_1 ⟨vb (same2 g1 g2), rfl, rfl, rfl, trivial⟩ (fun _ h => h.upto ⟨rfl, rfl, trivial⟩)
   ·try simp only [za,zb,zc,zd,ze,zf,Bool.not_true,Bool.not_false,zg,zh,ne_eq,zi,zj] at g2
    refine at_off rfl rfl rfl rfl (by decide) rfl (by decide) ?_
    refine at_off rfl rfl rfl rfl (by decide) rfl (by decide) ?_
    refine at_off rfl rfl rfl rfl (by decide) rfl (by decide) ?_
    refine at_off rfl rfl rfl rfl (by decide) rfl (by decide) ?_
    refine at_off rfl rfl rfl rfl (by decide) rfl (by decide) ?_
    refine at_on rfl rfl rfl rfl ?_
    refine op_q rfl (by decide) (qt_pickF rfl rfl rfl) ?_
    refine at_q rfl rfl (by decide) (qt_pickF rfl rfl rfl) ?_
    refine at_end ?_
    exact at_meet hC_cut_1 ⟨vb (same3 g1 g2), rfl, rfl, rfl, trivial⟩ (fun _ h => h.upto ⟨rfl, rfl, trivial⟩)
 ·refine at_envE (by simp only [ya,yb]; rfl) ?_
  refine at_cond rfl (fun c1 => ?_) (fun c1 => ?_)
  ·try simp only [za,zb,zc,zd,ze,zf,Bool.not_true,Bool.not_false,zg,zh,ne_eq,zi,zj] at c1
   refine at_seq ?_
   refine at_region ?_
   refine at_q rfl rfl (by decide) (qt_assign rfl rfl) ?_
   refine at_end ?_
   refine at_retc ?_
   refine then_ret ?_
   refine at_ret1 rfl (.tmp rfl) ?_
   intro w' hs
   exact ⟨retB (pairL_same c1).symm, hs.fin⟩
  ·try simp only [za,zb,zc,zd,ze,zf,Bool.not_true,Bool.not_false,zg,zh,ne_eq,zi,zj] at c1
   refine at_skip ?_
   refine norm_then ?_
   refine at_seq ?_
   refine at_region ?_
   refine at_q rfl rfl (by decide) (qt_fieldAddr rfl rfl tyf_impl_leg_0) ?_
   refine at_q rfl rfl (by decide) (qt_loadS rfl rfl tys_impl_Pt rfl (rd2 (k := 0) rfl rfl rfl)) ?_
   refine at_q rfl rfl (by decide) (qt_fieldAddr rfl rfl tyf_impl_leg_1) ?_
   refine at_q rfl rfl (by decide) (qt_loadS rfl rfl tys_impl_Pt rfl (rd2 (k := 0) rfl rfl rfl)) ?_
   refine at_q rfl rfl (by decide) (qt_fieldAddr rfl rfl tyf_impl_leg_0) ?_
   refine at_q rfl rfl (by decide) (qt_loadS rfl rfl tys_impl_Pt rfl (rd2 (k := 1) rfl rfl rfl)) ?_
   refine at_q rfl rfl (by decide) (qt_fieldAddr rfl rfl tyf_impl_leg_1) ?_
   refine at_q rfl rfl (by decide) (qt_loadS rfl rfl tys_impl_Pt rfl (rd2 (k := 1) rfl rfl rfl)) ?_
   refine at_q rfl rfl (by decide) (qt_call ok_impl_meeting rfl rfl (fun w h => meeting_any (lA e) (lB e) (lA f) (lB f) w (lA_ok he) (lB_ok he) (lA_ok hf) (lB_ok hf))) ?_
   refine at_q rfl rfl (by decide) (qt_move rfl rfl) ?_
   refine at_q rfl rfl (by decide) (qt_extract rfl rfl rfl) ?_
   refine at_q rfl rfl (by decide) (qt_extract rfl rfl rfl) ?_
   refine at_op rfl ?_
   refine op_alloc rfl tyz_impl_Pt rfl (by decide) (fun b3 => ?_)
   refine at_rsE (by simp only [ya,yb,yc,yd,Value.cells,ye]; rfl) ?_
   refine at_q rfl rfl (by decide) (qt_assign rfl rfl) ?_
   refine at_op rfl ?_
   refine op_storeAll' (k := 2) rfl rfl rfl rfl (rfl) (by rfl) tyz_impl_Pt.szx rfl rfl rfl ?_
   refine at_rsE (by simp only [ya,yb,yc,yd,Value.cells,ye]; rfl) ?_
   refine at_end ?_
   refine at_seq ?_
   refine at_seq ?_
   refine at_region ?_
   refine at_q rfl rfl (by decide) (qt_move rfl rfl) ?_
   refine at_q rfl rfl (by decide) (qt_eql rfl rfl rfl) ?_
   refine at_end ?_
   refine at_cond rfl (fun c2 => ?_) (fun c2 => ?_)
   ·try simp only [za,zb,zc,zd,ze,zf,Bool.not_true,Bool.not_false,zg,zh,ne_eq,zi,zj] at c2
    have eT := pairL_touch' c1 c2
    refine at_seq ?_
    refine at_region ?_
    refine at_q rfl rfl (by decide) (qt_loadS rfl rfl tys_impl_Pt rfl (rdAll (k := 2) rfl)) ?_
    refine at_q rfl rfl (by decide) (qt_fieldAddr rfl rfl tyf_impl_leg_0) ?_
    refine at_q rfl rfl (by decide) (qt_loadS rfl rfl tys_impl_Pt rfl (rd2 (k := 0) rfl rfl rfl)) ?_
    refine at_q rfl rfl (by decide) (qt_eqlS_impl_Pt rfl rfl rfl) ?_
    refine at_q rfl rfl (by decide) (qt_move rfl rfl) ?_
    refine at_bsplit 42 rfl (fun g3 => ?_) (fun g3 => ?_)
    ·try simp only [za,zb,zc,zd,ze,zf,Bool.not_true,Bool.not_false,zg,zh,ne_eq,zi,zj] at g3
     refine at_off rfl rfl rfl rfl (by decide) rfl (by decide) ?_
     refine at_off rfl rfl rfl rfl (by decide) rfl (by decide) ?_
     refine at_off rfl rfl rfl rfl (by decide) rfl (by decide) ?_
     refine at_off rfl rfl rfl rfl (by decide) rfl (by decide) ?_
     refine at_q rfl rfl (by decide) (qt_pickT rfl rfl rfl) ?_
     refine at_q rfl rfl (by decide) (qt_move rfl rfl) ?_
     refine at_on rfl rfl rfl rfl ?_
     refine op_q rfl (by decide) (qt_loadS rfl rfl tys_impl_Pt rfl (rdAll (k := 2) rfl)) ?_
     refine at_on rfl rfl rfl rfl ?_
     refine op_q rfl (by decide) (qt_fieldAddr rfl rfl tyf_impl_leg_0) ?_
     refine at_on rfl rfl rfl rfl ?_
     refine op_q rfl (by decide) (qt_loadS rfl rfl tys_impl_Pt rfl (rd2 (k := 1) rfl rfl rfl)) ?_
     refine at_on rfl rfl rfl rfl ?_
     refine op_q rfl (by decide) (qt_eqlS_impl_Pt rfl rfl rfl) ?_
     refine at_on rfl rfl rfl rfl ?_
     refine op_q rfl (by decide) (qt_move rfl rfl) ?_
     refine at_bsplit 53 rfl (fun g4 => ?_) (fun g4 => ?_)
     ·try simp only [za,zb,zc,zd,ze,zf,Bool.not_true,Bool.not_false,zg,zh,ne_eq,zi,zj] at g4
      refine at_off rfl rfl rfl rfl (by decide) rfl (by decide) ?_
      refine at_off rfl rfl rfl rfl (by decide) rfl (by decide) ?_
      refine at_off rfl rfl rfl rfl (by decide) rfl (by decide) ?_
      refine at_off rfl rfl rfl rfl (by decide) rfl (by decide) ?_
      refine at_on rfl rfl rfl rfl ?_
      refine op_q rfl (by decide) (qt_pickT rfl rfl rfl) ?_
      refine at_q rfl rfl (by decide) (qt_pickT rfl rfl rfl) ?_
      refine at_q rfl rfl (by decide) (qt_assign rfl rfl) ?_
      refine at_end ?_
      refine at_retc ?_
      refine then_ret ?_
      refine at_ret1 rfl (.tmp rfl) ?_
      intro w' hs
      exact ⟨retB (by first | exact eL.symm | rw [eT]; simp only [*, Bool.true_or, Bool.false_or, Bool.true_and, Bool.false_and]), hs.fin⟩
     ·try simp only [za,zb,zc,zd,ze,zf,Bool.not_true,Bool.not_false,zg,zh,ne_eq,zi,zj] at g4
      refine at_on rfl rfl rfl rfl ?_
      refine op_q rfl (by decide) (qt_loadS rfl rfl tys_impl_Pt rfl (rdAll (k := 2) rfl)) ?_
      refine at_on rfl rfl rfl rfl ?_
      refine op_q rfl (by decide) (qt_fieldAddr rfl rfl tyf_impl_leg_1) ?_
      refine at_on rfl rfl rfl rfl ?_
      refine op_q rfl (by decide) (qt_loadS rfl rfl tys_impl_Pt rfl (rd2 (k := 1) rfl rfl rfl)) ?_
      refine at_on rfl rfl rfl rfl ?_
      refine op_q rfl (by decide) (qt_eqlS_impl_Pt rfl rfl rfl) ?_
      refine at_on rfl rfl rfl rfl ?_
      refine op_q rfl (by decide) (qt_pickF rfl rfl rfl) ?_
      refine at_q rfl rfl (by decide) (qt_pickT rfl rfl rfl) ?_
      refine at_q rfl rfl (by decide) (qt_assign rfl rfl) ?_
      refine at_end ?_
      refine at_retc ?_
      refine then_ret ?_
      refine at_ret1 rfl (.tmp rfl) ?_
      intro w' hs
      exact ⟨retB (by first | exact eL.symm | rw [eT]; simp only [*, Bool.true_or, Bool.false_or, Bool.true_and, Bool.false_and]), hs.fin⟩
    ·try simp only [za,zb,zc,zd,ze,zf,Bool.not_true,Bool.not_false,zg,zh,ne_eq,zi,zj] at g3
     refine at_on rfl rfl rfl rfl ?_
     refine op_q rfl (by decide) (qt_loadS rfl rfl tys_impl_Pt rfl (rdAll (k := 2) rfl)) ?_
     refine at_on rfl rfl rfl rfl ?_
     refine op_q rfl (by decide) (qt_fieldAddr rfl rfl tyf_impl_leg_1) ?_
     refine at_on rfl rfl rfl rfl ?_
     refine op_q rfl (by decide) (qt_loadS rfl rfl tys_impl_Pt rfl (rd2 (k := 0) rfl rfl rfl)) ?_
     refine at_on rfl rfl rfl rfl ?_
     refine op_q rfl (by decide) (qt_eqlS_impl_Pt rfl rfl rfl) ?_
     refine at_q rfl rfl (by decide) (qt_pickF rfl rfl rfl) ?_
     refine at_q rfl rfl (by decide) (qt_move rfl rfl) ?_
     refine at_bsplit 48 rfl (fun g5 => ?_) (fun g5 => ?_)
     ·try simp only [za,zb,zc,zd,ze,zf,Bool.not_true,Bool.not_false,zg,zh,ne_eq,zi,zj] at g5
      refine at_on rfl rfl rfl rfl ?_
      refine op_q rfl (by decide) (qt_loadS rfl rfl tys_impl_Pt rfl (rdAll (k := 2) rfl)) ?_
      refine at_on rfl rfl rfl rfl ?_
      refine op_q rfl (by decide) (qt_fieldAddr rfl rfl tyf_impl_leg_0) ?_
      refine at_on rfl rfl rfl rfl ?_
      refine op_q rfl (by decide) (qt_loadS rfl rfl tys_impl_Pt rfl (rd2 (k := 1) rfl rfl rfl)) ?_
      refine at_on rfl rfl rfl rfl ?_
      refine op_q rfl (by decide) (qt_eqlS_impl_Pt rfl rfl rfl) ?_
      refine at_on rfl rfl rfl rfl ?_
      refine op_q rfl (by decide) (qt_move rfl rfl) ?_
      refine at_bsplit 53 rfl (fun g6 => ?_) (fun g6 => ?_)
      ·try simp only [za,zb,zc,zd,ze,zf,Bool.not_true,Bool.not_false,zg,zh,ne_eq,zi,zj] at g6
       refine at_off rfl rfl rfl rfl (by decide) rfl (by decide) ?_
       refine at_off rfl rfl rfl rfl (by decide) rfl (by decide) ?_
       refine at_off rfl rfl rfl rfl (by decide) rfl (by decide) ?_
       refine at_off rfl rfl rfl rfl (by decide) rfl (by decide) ?_
       refine at_on rfl rfl rfl rfl ?_
       refine op_q rfl (by decide) (qt_pickT rfl rfl rfl) ?_
       refine at_q rfl rfl (by decide) (qt_pickT rfl rfl rfl) ?_
       refine at_q rfl rfl (by decide) (qt_assign rfl rfl) ?_
       refine at_end ?_
       refine at_retc ?_
       refine then_ret ?_
       refine at_ret1 rfl (.tmp rfl) ?_
       intro w' hs
       exact ⟨retB (by first | exact eL.symm | rw [eT]; simp only [*, Bool.true_or, Bool.false_or, Bool.true_and, Bool.false_and]), hs.fin⟩
      ·try simp only [za,zb,zc,zd,ze,zf,Bool.not_true,Bool.not_false,zg,zh,ne_eq,zi,zj] at g6
       refine at_on rfl rfl rfl rfl ?_
       refine op_q rfl (by decide) (qt_loadS rfl rfl tys_impl_Pt rfl (rdAll (k := 2) rfl)) ?_
       refine at_on rfl rfl rfl rfl ?_
       refine op_q rfl (by decide) (qt_fieldAddr rfl rfl tyf_impl_leg_1) ?_
       refine at_on rfl rfl rfl rfl ?_
       refine op_q rfl (by decide) (qt_loadS rfl rfl tys_impl_Pt rfl (rd2 (k := 1) rfl rfl rfl)) ?_
       refine at_on rfl rfl rfl rfl ?_
       refine op_q rfl (by decide) (qt_eqlS_impl_Pt rfl rfl rfl) ?_
       refine at_on rfl rfl rfl rfl ?_
       refine op_q rfl (by decide) (qt_pickF rfl rfl rfl) ?_
       refine at_q rfl rfl (by decide) (qt_pickT rfl rfl rfl) ?_
       refine at_q rfl rfl (by decide) (qt_assign rfl rfl) ?_
       refine at_end ?_
       refine at_retc ?_
       refine then_ret ?_
       refine at_ret1 rfl (.tmp rfl) ?_
       intro w' hs
       exact ⟨retB (by first | exact eL.symm | rw [eT]; simp only [*, Bool.true_or, Bool.false_or, Bool.true_and, Bool.false_and]), hs.fin⟩
     ·try simp only [za,zb,zc,zd,ze,zf,Bool.not_true,Bool.not_false,zg,zh,ne_eq,zi,zj] at g5
      refine at_off rfl rfl rfl rfl (by decide) rfl (by decide) ?_
      refine at_off rfl rfl rfl rfl (by decide) rfl (by decide) ?_
      refine at_off rfl rfl rfl rfl (by decide) rfl (by decide) ?_
      refine at_off rfl rfl rfl rfl (by decide) rfl (by decide) ?_
      refine at_off rfl rfl rfl rfl (by decide) rfl (by decide) ?_
      refine at_offu rfl rfl rfl rfl rfl (by decide) ?_
      refine at_offu rfl rfl rfl rfl rfl (by decide) ?_
      refine at_offu rfl rfl rfl rfl rfl (by decide) ?_
      refine at_offu rfl rfl rfl rfl rfl (by decide) ?_
      refine at_off rfl rfl rfl rfl (by decide) rfl (by decide) ?_
      refine at_q rfl rfl (by decide) (qt_pickF rfl rfl rfl) ?_
      refine at_q rfl rfl (by decide) (qt_assign rfl rfl) ?_
      refine at_end ?_
      refine at_retc ?_
      refine then_ret ?_
      refine at_ret1 rfl (.tmp rfl) ?_
      intro w' hs
      exact ⟨retB (by first | exact eL.symm | rw [eT]; simp only [*, Bool.true_or, Bool.false_or, Bool.true_and, Bool.false_and]), hs.fin⟩
   ·try simp only [za,zb,zc,zd,ze,zf,Bool.not_true,Bool.not_false,zg,zh,ne_eq,zi,zj] at c2
    have eL := pairL_else c1 c2
    refine at_skip ?_
    refine norm_then ?_
    refine at_seq ?_
    refine at_region ?_
    refine at_q rfl rfl (by decide) (qt_move rfl rfl) ?_
    refine at_q rfl rfl (by decide) (qt_eql rfl rfl rfl) ?_
    refine at_q rfl rfl (by decide) (qt_assign rfl rfl) ?_
    refine at_end ?_
    refine at_retc ?_
    refine at_ret1 rfl (.tmp rfl) ?_
    intro w' hs
    exact ⟨retB (by first | exact eL.symm | rw [eT]; simp only [*, Bool.true_or, Bool.false_or, Bool.true_and, Bool.false_and]), hs.fin⟩

theorem lt_succ_all {P : Nat → Prop} {k : Nat} (h : ∀ q, q < k → P q) (hk : P k) : ∀ q, q < k + 1 → P q := fun q hq => by
 rcases Nat.lt_or_ge q k with h1 | h1
 ·exact h q h1
 ·obtain rfl : q = k := by omega
  exact hk
theorem slicedH (b o h cap s : Nat) : sliced (some ⟨b, o, none⟩) 0 h cap s = .slice (some ⟨b, o, none⟩) h cap := by
 unfold sliced
 simp [add_none]
theorem rowSome {w : World} {w0 : Bs} {Rs : List Res} {k B T s n : Nat} {x : Option Addr × Nat} {xs : List Value} (hk : Rs[k]? = some (rowR B T s n xs x)) (hs : St w0 Rs w) (hn : 0 < n) : ∃ g, x.1 = some ⟨g, 0, none⟩ := by
 have h : w.ownsRow B T s (.slice x.1 n x.2) n xs := (hs.all k _ hk).1
 rcases h.2 with ⟨_, e⟩ | ⟨g, cap, cur, e, _⟩
 ·omega
 ·injection e with e1
  exact ⟨g, e1⟩
def snapAll (ls : List Leg) : Bool := (List.range ls.length).all fun i => (List.range i).all fun k => pairL (lg ls i) (lg ls k)
theorem snapAll_no {ls : List Leg} {i k : Nat} (hi : i < ls.length) (hk : k < i) (h : pairL (lg ls i) (lg ls k) = false) : false = snapAll ls := by
 symm
 rw [snapAll, List.all_eq_false]
 refine ⟨i, List.mem_range.2 hi, ?_⟩
 rw [Bool.not_eq_true, List.all_eq_false]
 exact ⟨k, List.mem_range.2 hk, by simp [h]⟩
theorem snapAll_yes {ls : List Leg} (h : ∀ i, i < ls.length → ∀ k, k < i → pairL (lg ls i) (lg ls k) = true) : true = snapAll ls := by
 symm
 rw [snapAll, List.all_eq_true]
 intro i hi
 rw [List.all_eq_true]
 intro k hk
 exact h i (List.mem_range.1 hi) k (List.mem_range.1 hk)
theorem edgesTo_ne (xs : List (Int × Int)) : ∀ k, ∀ l ∈ edgesTo xs k, lA l ≠ lB l
 | 0, l, hl => by simp [edgesTo] at hl
 | k + 1, l, hl => by
  rw [edgesTo_succ] at hl
  split at hl
  ·exact edgesTo_ne xs k l hl
  ·rename_i h
   rcases List.mem_append.1 hl with h1 | h1
   ·exact edgesTo_ne xs k l h1
   ·rw [List.mem_singleton.1 h1]
    intro e
    simp only [lA, lB, Prod.mk.injEq] at e
    exact h e
theorem allTo_ne (rs : List Ring_) : ∀ k, ∀ l ∈ allTo rs k, lA l ≠ lB l
 | 0, l, hl => by simp [allTo] at hl
 | k + 1, l, hl => by
  simp only [allTo, List.mem_append] at hl
  rcases hl with h | h
  ·exact allTo_ne rs k l h
  ·exact edgesTo_ne _ _ l h
def isnB (rs : List Ring_) : Bool := regionB rs && snapAll (edgesAll rs)
theorem IsSnapped_any (A : Option Addr) (n c : Nat) (rs : List Ring_) (w : World) (h : Rings w A n rs) (ht : (total rs : Int) ≤ 1048577) :
  Calls Try.prog 21 #[regV A n c] w fun e w' => e = .returned (.bool (isnB rs)) ∧ Over w w' := by
 have hl := h.1
 refine walk_from (m := 34) (Try.func21) rfl rfl (Nat.le_of_ble_eq_true rfl) ?_
 refine at_seq ?_
 refine at_region ?_
 refine at_op rfl ?_
 refine op_box rfl rfl (rfl) rfl (by decide) (fun b1 => ?_)
 refine at_rsE (by simp only [ya,yb,yc,yd,Value.cells,ye]; rfl) ?_
 refine at_q rfl rfl (by decide) (qt_assign rfl rfl) ?_
 refine at_end ?_
 refine at_seq ?_
 refine at_seq ?_
 refine at_region ?_
 refine at_q rfl rfl (by decide) (qt_loadS rfl rfl tys_impl_Region rfl (rdAll (k := 0) rfl)) ?_
 refine at_q rfl rfl (by decide) (qt_call ok_impl_ValidRegion rfl rfl (fun w1 hs => ValidRegion_any A n c rs w1 (h.over hs.fin) ht)) ?_
 refine at_q rfl rfl (by decide) (qt_not rfl rfl) ?_
 refine at_end ?_
 refine at_cond rfl (fun c1 => ?_) (fun c1 => ?_)
 ·try simp only [za,zb,zc,zd,ze,zf,Bool.not_true,Bool.not_false,zg,zh,ne_eq,zi,zj] at c1
  refine at_seq ?_
  refine at_region ?_
  refine at_q rfl rfl (by decide) (qt_assign rfl rfl) ?_
  refine at_end ?_
  refine at_retc ?_
  refine then_ret ?_
  refine at_ret1 rfl (.tmp rfl) ?_
  intro w' hs
  exact ⟨by simp [isnB, c1], hs.fin⟩
 ·try simp only [za,zb,zc,zd,ze,zf,Bool.not_true,Bool.not_false,zg,zh,ne_eq,zi,zj] at c1
  have hr : regionB rs = true := by simpa using c1
  have hok := regOk hr
  have hal := allLen hr
  have eB : isnB rs = snapAll (edgesAll rs) := by rw [isnB, hr]; rfl
  refine at_skip ?_
  refine norm_then ?_
  refine at_seq ?_
  refine at_region ?_
  refine at_q rfl rfl (by decide) (qt_loadS rfl rfl tys_impl_Region rfl (rdAll (k := 0) rfl)) ?_
  refine at_op rfl ?_
  refine op_call ok_impl_edgesOf (v := fun x => .slice x.1 _ x.2) (r := fun x => rowR 0 61 4 _ _ x) (H := fun _ => True) rfl rfl rfl (by decide) (fun w1 hs => newRow' (edgesOf_any A n c rs w1 (h.over hs.fin) ht)) ?_
  rintro ⟨eA, ec⟩ -
  refine at_rsE (by simp only [ya,yb,yc,yd,Value.cells,ye]; rfl) ?_
  refine at_q rfl rfl (by decide) (qt_assign rfl rfl) ?_
  refine at_end ?_
  refine at_seq ?_
  refine at_seq ?_
  obtain ⟨ls, hls⟩ : ∃ ls, edgesAll rs = ls := ⟨_, rfl⟩
  rw [hls] at hok hal eB
  rw [hls]
  refine at_region ?_
  refine at_q rfl rfl (by decide) (qt_move rfl rfl) ?_
  refine at_q rfl rfl (by decide) (qt_len rfl rfl tyl_sl_impl_leg) ?_
  refine at_q rfl rfl (by decide) (qt_move rfl rfl) ?_
  refine at_end ?_
  refine at_block ?_
  refine at_loopc (X := Nat) (fun i => i ≤ ls.length ∧ ∀ q, q < i → ∀ k, k < q → pairL (lg ls q) (lg ls k) = true) (fun i => ls.length - i) (fun i => [(15, .int .i64 (i : Int))]) (C := [(2, _), (3, _), (13, _), (14, _)]) ⟨rfl, rfl, rfl, rfl, trivial⟩ (fun i => [.cel b1 31 [.slice A n c], rowR 0 61 4 ls.length (ls.flatMap legCells) (eA, ec)]) 0 (⟨Nat.zero_le _, fun q hq => absurd hq (by omega)⟩) ⟨rfl, rfl, rfl, rfl, rfl, trivial⟩ (fun _ h => h) ?_
  intro i hi L hL1
  refine at_envE (by simp only [ya,yb]; rfl) ?_
  refine at_rsE (by first | (dsimp only; done) | (dsimp only; rfl) | rfl) ?_
  refine at_seq ?_
  refine at_region ?_
  refine at_q rfl rfl (by decide) (qt_lss rfl rfl rfl) ?_
  refine at_end ?_
  refine at_seq ?_
  refine at_cond rfl (fun c2 => ?_) (fun c2 => ?_)
  ·try simp only [za,zb,zc,zd,ze,zf,Bool.not_true,Bool.not_false,zg,zh,ne_eq,zi,zj] at c2
   have hlt : i < ls.length := (by omega)
   refine at_fact (fun w hs => rowSome (k := 1) rfl hs (by omega)) ?_
   rintro ⟨eg, rfl⟩
   refine at_fact (fun w hs => rowCap (hs.all 1 _ rfl).1) ?_
   intro hcap
   refine at_skip ?_
   refine norm_then ?_
   refine at_seq ?_
   refine at_block ?_
   refine at_seq ?_
   refine at_region ?_
   refine at_q rfl rfl (by decide) (qt_move rfl rfl) ?_
   refine at_q rfl rfl (by decide) (qt_index rfl rfl rfl tyl_sl_impl_leg (by omega)) ?_
   refine at_q rfl rfl (by decide) (qt_loadS rfl rfl tys_impl_leg rfl (rdLeg (fun w' hs => rowLegs (k := 1) rfl rfl w' hs) hlt)) ?_
   refine at_op rfl ?_
   refine op_alloc rfl tyz_impl_leg rfl (by decide) (fun b2 => ?_)
   refine at_rsE (by simp only [ya,yb,yc,yd,Value.cells,ye]; rfl) ?_
   refine at_q rfl rfl (by decide) (qt_assign rfl rfl) ?_
   refine at_op rfl ?_
   refine op_storeAll' (k := 2) rfl rfl rfl rfl (rfl) (by rfl) tyz_impl_leg.szx rfl rfl rfl ?_
   refine at_rsE (by simp only [ya,yb,yc,yd,Value.cells,ye]; rfl) ?_
   refine at_end ?_
   refine at_seq ?_
   refine at_region ?_
   refine at_q rfl rfl (by decide) (qt_move rfl rfl) ?_
   refine at_q rfl rfl (by decide) (qt_move rfl rfl) ?_
   refine at_q rfl rfl (by decide) ((qt_sliceH rfl rfl rfl tyl_sl_impl_leg (by omega)).as (slicedH _ _ _ _ _)) ?_
   refine at_q rfl rfl (by decide) (qt_len rfl rfl tyl_sl_impl_leg) ?_
   refine at_q rfl rfl (by decide) (qt_move rfl rfl) ?_
   refine at_end ?_
   refine at_block ?_
   refine at_loopc (X := Nat) (fun k => k ≤ i ∧ ∀ q, q < k → pairL (lg ls i) (lg ls q) = true) (fun k => i - k) (fun k => [(24, .int .i64 (k : Int))]) (C := [(2, _), (3, _), (13, _), (14, _), (15, _), (16, _), (17, _), (18, _), (19, _), (5, _), (4, _), (20, _), (21, _), (22, _), (23, _)]) ⟨rfl, rfl, rfl, rfl, rfl, rfl, rfl, rfl, rfl, rfl, rfl, rfl, rfl, rfl, rfl, trivial⟩ (fun k => [.cel b1 31 [.slice A n c], rowR 0 61 4 ls.length (ls.flatMap legCells) (some ⟨eg, 0, none⟩, ec), .cel b2 61 (legCells (lg ls i))]) 0 (⟨Nat.zero_le _, fun q hq => absurd hq (by omega)⟩) ⟨rfl, rfl, rfl, rfl, rfl, rfl, rfl, rfl, rfl, rfl, rfl, rfl, rfl, rfl, rfl, rfl, trivial⟩ (fun _ h => h) ?_
   intro k hk L hL2
   refine at_envE (by simp only [ya,yb]; rfl) ?_
   refine at_rsE (by first | (dsimp only; done) | (dsimp only; rfl) | rfl) ?_
   refine at_seq ?_
   refine at_region ?_
   refine at_q rfl rfl (by decide) (qt_lss rfl rfl rfl) ?_
   refine at_end ?_
   refine at_seq ?_
   refine at_cond rfl (fun c3 => ?_) (fun c3 => ?_)
   ·try simp only [za,zb,zc,zd,ze,zf,Bool.not_true,Bool.not_false,zg,zh,ne_eq,zi,zj] at c3
    have hkt : k < i := (by omega)
    refine at_skip ?_
    refine norm_then ?_
    refine at_seq ?_
    refine at_block ?_
    refine at_seq ?_
    refine at_region ?_
    refine at_q rfl rfl (by decide) (qt_index rfl rfl rfl tyl_sl_impl_leg (by omega)) ?_
    refine at_q rfl rfl (by decide) (qt_loadS rfl rfl tys_impl_leg rfl (rdLeg (fun w' hs => rowLegs (k := 1) rfl rfl w' hs) (show k < ls.length by omega))) ?_
    refine at_op rfl ?_
    refine op_alloc rfl tyz_impl_leg rfl (by decide) (fun b3 => ?_)
    refine at_rsE (by simp only [ya,yb,yc,yd,Value.cells,ye]; rfl) ?_
    refine at_op rfl ?_
    refine op_storeAll' (k := 3) rfl rfl rfl rfl (rfl) (by rfl) tyz_impl_leg.szx rfl rfl rfl ?_
    refine at_rsE (by simp only [ya,yb,yc,yd,Value.cells,ye]; rfl) ?_
    refine at_end ?_
    refine at_seq ?_
    refine at_region ?_
    refine at_q rfl rfl (by decide) (qt_loadS rfl rfl tys_impl_leg rfl (rdAll (k := 2) rfl)) ?_
    refine at_q rfl rfl (by decide) (qt_loadS rfl rfl tys_impl_leg rfl (rdAll (k := 3) rfl)) ?_
    refine at_q rfl rfl (by decide) (qt_call ok_impl_snappedPair rfl rfl (fun w h => snappedPair_any (lg ls i) (lg ls k) w (lg_ok hok (by omega)) (lg_ok hok (by omega)))) ?_
    refine at_q rfl rfl (by decide) (qt_not rfl rfl) ?_
    refine at_end ?_
    refine at_cond rfl (fun c4 => ?_) (fun c4 => ?_)
    ·try simp only [za,zb,zc,zd,ze,zf,Bool.not_true,Bool.not_false,zg,zh,ne_eq,zi,zj] at c4
     refine at_seq ?_
     refine at_region ?_
     refine at_q rfl rfl (by decide) (qt_assign rfl rfl) ?_
     refine at_end ?_
     refine at_retc ?_
     refine pass_ret ?_
     refine then_ret ?_
     refine then_ret ?_
     refine pass_ret ?_
     refine pass_ret ?_
     refine then_ret ?_
     refine then_ret ?_
     refine pass_ret ?_
     refine then_ret ?_
     refine at_ret1 rfl (.tmp rfl) ?_
     intro w' hs
     exact ⟨retB (by rw [eB]; exact snapAll_no hlt hkt (by simpa using c4)), hs.fin⟩
    ·try simp only [za,zb,zc,zd,ze,zf,Bool.not_true,Bool.not_false,zg,zh,ne_eq,zi,zj] at c4
     refine at_skip ?_
     refine norm_block ?_
     refine norm_then ?_
     refine at_region ?_
     refine at_q rfl rfl (by decide) (qt_add rfl rfl rfl (by omega) (by omega)) ?_
     refine at_q rfl rfl (by decide) (qt_move rfl rfl) ?_
     refine at_end ?_
     exact at_againc hL2 (k + 1) (⟨by omega, lt_succ_all hk.2 (by simpa using c4)⟩) (by omega) ⟨vi (by omega), rfl, rfl, rfl, rfl, rfl, rfl, rfl, rfl, rfl, rfl, rfl, rfl, rfl, rfl, rfl, trivial⟩ (fun _ h => h.upto ⟨rfl, rfl, rfl, trivial⟩)
   ·try simp only [za,zb,zc,zd,ze,zf,Bool.not_true,Bool.not_false,zg,zh,ne_eq,zi,zj] at c3
    refine at_exit ?_
    refine pass_then (fun h => by cases h) ?_
    refine pass_then (fun h => by cases h) ?_
    refine pass_hit ?_
    refine norm_block ?_
    refine norm_then ?_
    refine at_region ?_
    refine at_q rfl rfl (by decide) (qt_add rfl rfl rfl (by omega) (by omega)) ?_
    refine at_q rfl rfl (by decide) (qt_move rfl rfl) ?_
    refine at_end ?_
    exact at_againc hL1 (i + 1) (⟨by omega, lt_succ_all (P := fun q => ∀ k, k < q → pairL (lg ls q) (lg ls k) = true) hi.2 (fun p hp => hk.2 p (by omega))⟩) (by omega) ⟨vi (by omega), rfl, rfl, rfl, rfl, trivial⟩ (fun _ h => h.upto ⟨rfl, rfl, trivial⟩)
  ·try simp only [za,zb,zc,zd,ze,zf,Bool.not_true,Bool.not_false,zg,zh,ne_eq,zi,zj] at c2
   refine at_exit ?_
   refine pass_then (fun h => by cases h) ?_
   refine pass_then (fun h => by cases h) ?_
   refine pass_hit ?_
   refine norm_then ?_
   refine at_seq ?_
   refine at_region ?_
   refine at_q rfl rfl (by decide) (qt_assign rfl rfl) ?_
   refine at_end ?_
   refine at_retc ?_
   refine at_ret1 rfl (.tmp rfl) ?_
   intro w' hs
   exact ⟨retB (by rw [eB]; exact snapAll_yes fun q hq => hi.2 q (by omega)), hs.fin⟩
section
variable {P : Program} {n : Nat} {w0 : Bs} {Rs : List Res} {ops : Array Oper} {Q : Exit → Act → World → Prop} {K : Act → World → Prop}
/-- The operation is carried out; it is not. -/
def Wants (ops : Array Oper) (env : List (Nat × Value)) (o : Oper) : Prop := o.guard = none ∨ ∃ j c oj dj, o.guard = some (j, c) ∧ ops[j]? = some oj ∧ oj.dst = some dj ∧ look env dj = some (.bool c)
def Leaves (ops : Array Oper) (env : List (Nat × Value)) (o : Oper) : Prop := ∃ j c oj dj, o.guard = some (j, c) ∧ ops[j]? = some oj ∧ oj.dst = some dj ∧ (look env dj = some undef ∨ ∃ b, look env dj = some (.bool b) ∧ b ≠ c)
def Lx (P : Program) (ops : Array Oper) (n : Nat) (w0 : Bs) (Rs : List Res) (K : Act → World → Prop) : List Oper → List (Nat × Value) → Prop
 | [], env => At n env w0 Rs K
 | o :: rest, env => ∃ d v, o.dst = some d ∧ d < n ∧ ((Wants ops env o ∧ Qt P o n env w0 Rs v) ∨ (Leaves ops env o ∧ v = undef)) ∧ Lx P ops n w0 Rs K rest ((d, v) :: env)
theorem Wants.wanted {env : List (Nat × Value)} {o : Oper} {a : Act} (h : Wants ops env o) (hf : Frm n env a) : Region.wanted o (yielded ops a.tmps) = true := by
 rcases h with h | ⟨j, c, oj, dj, hg, hj, hdj, hb⟩
 ·simp [Region.wanted, h]
 ·simp [Region.wanted, hg, yields hf hj hdj hb]
theorem Leaves.wanted {env : List (Nat × Value)} {o : Oper} {a : Act} (h : Leaves ops env o) (hf : Frm n env a) : Region.wanted o (yielded ops a.tmps) = false := by
 obtain ⟨j, c, oj, dj, hg, hj, hdj, hb | ⟨b, hb, hne⟩⟩ := h
 ·simp [Region.wanted, hg, yields_not hf hj hdj hb]
 ·simp [Region.wanted, hg, yields hf hj hdj hb, hne]
/-! ### The check, made cheap -/
def bindsOn (o : Oper) : List Nat := o.after.toList.filterMap fun e => match Region.binds .any e with | true => some e.on | false => none
def looksL (l : List Oper) (o : Oper) : List Nat :=
 (o.op.operands.toList.filterMap fun | .tmp t => some t | _ => none) ++
 (match o.guard with
  | some (g, _) => ((l[g]?).bind (·.dst)).toList
  | none => [])
def memN (x : Nat) : List Nat → Bool
 | [] => false
 | y :: r => match Nat.beq x y with
  | true => true
  | false => memN x r
def chkT (af : List Nat) (k t : Nat) : List Nat → Nat → Bool
 | [], _ => true
 | d :: r, i => (match Nat.beq d t with
  | true => Nat.blt i k && memN i af
  | false => true) && chkT af k t r (i + 1)
def dstOf (o : Oper) : Nat := match o.dst with | some d => d | none => 0
def chkO (l : List Oper) (ds : List Nat) (k : Nat) (o : Oper) : Bool :=
 (match o.dst with | some _ => true | none => false) && (match o.op with | .select .. => false | _ => true) && (bindsOn o).all (fun i => Nat.blt i k) && (looksL l o).all (fun t => chkT (bindsOn o) k t ds 0)
def chkAll (l : List Oper) (ds : List Nat) : List Oper → Nat → Bool
 | [], _ => true
 | o :: r, k => chkO l ds k o && chkAll l ds r (k + 1)
def nodupN : List Nat → Bool
 | [] => true
 | d :: r => (match memN d r with | true => false | false => true) && nodupN r
def lexFast (l : List Oper) : Bool := nodupN (l.map dstOf) && chkAll l (l.map dstOf) l 0
theorem memN_iff {x : Nat} : ∀ {l : List Nat}, memN x l = true ↔ x ∈ l
 | [] => by simp [memN]
 | y :: r => by
  unfold memN
  cases h : Nat.beq x y with
  | true => simp [Nat.eq_of_beq_eq_true h]
  | false =>
   have : x ≠ y := fun e => by subst e; simp at h
   simp [this, memN_iff]
theorem chkT_spec {af : List Nat} {k t : Nat} : ∀ {ds : List Nat} {i : Nat}, chkT af k t ds i = true → ∀ j, ds[j]? = some t → i + j < k ∧ i + j ∈ af
 | [], _, _, j, hj => by simp at hj
 | d :: r, i, h, j, hj => by
  simp only [chkT, Bool.and_eq_true] at h
  match j, hj with
  | 0, hj =>
   simp at hj
   subst hj
   have h1 := h.1
   simp only [Nat.beq_refl, Bool.and_eq_true] at h1
   exact ⟨by simpa using h1.1, by simpa using memN_iff.1 h1.2⟩
  | j + 1, hj =>
   have := chkT_spec h.2 j (by simpa using hj)
   rw [show i + (j + 1) = i + 1 + j by omega]
   exact this
theorem nodupN_spec : ∀ {ds : List Nat}, nodupN ds = true → ds.Nodup
 | [], _ => List.nodup_nil
 | d :: r, h => by
  simp only [nodupN, Bool.and_eq_true] at h
  refine List.nodup_cons.2 ⟨fun hm => ?_, nodupN_spec h.2⟩
  rw [memN_iff.2 hm] at h
  exact absurd h.1 (by simp)
theorem chkAll_spec {l : List Oper} {ds : List Nat} : ∀ {r : List Oper} {k : Nat}, chkAll l ds r k = true → ∀ j o, r[j]? = some o → chkO l ds (k + j) o = true
 | [], _, _, j, o, hj => by simp at hj
 | a :: r, k, h, j, o, hj => by
  simp only [chkAll, Bool.and_eq_true] at h
  match j, hj with
  | 0, hj => simp at hj; subst hj; exact h.1
  | j + 1, hj =>
   rw [show k + (j + 1) = k + 1 + j by omega]
   exact chkAll_spec h.2 j o (by simpa using hj)
structure LexOk (l : List Oper) : Prop where
 dst : ∀ (k : Nat) (o : Oper), l[k]? = some o → ∃ d, o.dst = some d
 sel : ∀ (k : Nat) (o : Oper), l[k]? = some o → ∀ cs b, o.op ≠ .select cs b
 aft : ∀ (k : Nat) (o : Oper), l[k]? = some o → ∀ e ∈ o.after, Region.binds .any e = true → e.on < k
 look : ∀ (k : Nat) (o : Oper), l[k]? = some o → ∀ t ∈ o.looksAt l.toArray, ∀ (i : Nat) (oi : Oper), l[i]? = some oi → oi.dst = some t → i < k ∧ ∃ e ∈ o.after, Region.binds .any e = true ∧ e.on = i
 diff : ∀ (i j : Nat) (oi oj : Oper) (d : Nat), i ≠ j → l[i]? = some oi → l[j]? = some oj → oi.dst = some d → oj.dst ≠ some d
theorem lexFast_ok {l : List Oper} (h : lexFast l = true) : LexOk l := by
 simp only [lexFast, Bool.and_eq_true] at h
 obtain ⟨hn, ha⟩ := h
 have key : ∀ (k : Nat) (o : Oper), l[k]? = some o → chkO l (l.map dstOf) k o = true := fun k o hk => by simpa using chkAll_spec ha k o hk
 have hdst : ∀ (k : Nat) (o : Oper), l[k]? = some o → ∃ d, o.dst = some d := fun k o hk => by
  have := key k o hk
  simp only [chkO, Bool.and_eq_true] at this
  cases hd : o.dst with
  | some d => exact ⟨d, rfl⟩
  | none => rw [hd] at this; exact absurd this.1.1.1 (by simp)
 refine ⟨hdst, fun k o hk cs b heq => ?_, fun k o hk e he hb => ?_, fun k o hk t ht i oi hi hd => ?_, fun i j oi oj d hij hi hj hd hd' => ?_⟩
 ·have := key k o hk
  simp only [chkO, Bool.and_eq_true, heq] at this
  exact absurd this.1.1.2 (by simp)
 ·have := key k o hk
  simp only [chkO, Bool.and_eq_true, List.all_eq_true] at this
  have h2 := this.1.2 e.on (List.mem_filterMap.2 ⟨e, by simpa using he, by simp [hb]⟩)
  simpa using h2
 ·have := key k o hk
  simp only [chkO, Bool.and_eq_true, List.all_eq_true] at this
  have hl : t ∈ looksL l o := by
   have e : o.looksAt l.toArray = looksL l o := by unfold Oper.looksAt looksL; simp only [List.getElem?_toArray]; rfl
   rw [← e]; exact ht
  have h2 := chkT_spec (this.2 t hl) i (by simp [hi, dstOf, hd])
  rw [Nat.zero_add] at h2
  refine ⟨h2.1, ?_⟩
  obtain ⟨e, he, h3⟩ := List.mem_filterMap.1 h2.2
  refine ⟨e, by simpa using he, ?_⟩
  cases hb : Region.binds .any e with
  | true => rw [hb] at h3; simp at h3; exact ⟨rfl, h3⟩
  | false => rw [hb] at h3; simp at h3
 ·have hnd := nodupN_spec hn
  have e1 : (l.map dstOf)[i]? = some d := by simp [hi, dstOf, hd]
  have e2 : (l.map dstOf)[j]? = some d := by simp [hj, dstOf, hd']
  exact hij ((List.getElem?_inj (by have := (List.getElem?_eq_some_iff.1 e1).1; exact this) hnd).1 (e1.trans e2.symm))
theorem lx_sound {L : List Oper} (hok : LexOk L) (hQ : ∀ c a d v w, Q (.panic c) (Act.put a d v) w → Q (.panic c) a w) : ∀ (l : List Oper) (k : Nat) (listed : Array Bool) (env : List (Nat × Value)) (a : Act) (W : World), (∀ j, l[j]? = L[k + j]?) → (∀ i, i < L.length → listed[i]? = some (decide (i < k))) → listed.size = L.length → k + l.length = L.length →
  Lx P L.toArray n w0 Rs (fun a w => Q .normal a w) l env → Frm n env a → St w0 Rs W → wpAnyO P .any L.toArray Q (stB w0 Rs) l.length listed a W
 | [], k, listed, env, a, W, _, hls, hsz, hkl, h, hf, hS => wpAnyO_done (by
   cases hr : Region.ready .any L.toArray listed with
   | nil => rfl
   | cons x xs =>
    have hx : x ∈ Region.ready .any L.toArray listed := by rw [hr]; exact List.mem_cons_self
    obtain ⟨h1, o, ho, _⟩ := mem_ready.1 hx
    have hlt : x < L.length := by simpa using (Array.getElem?_eq_some_iff.1 ho).1
    have := hls x hlt
    rw [Array.getD_eq_getD_getElem?, this] at h1
    simp at h1
    simp at hkl
    omega) (fun w hw => h a w hf (hS.over_ hw)) _
 | o :: l, k, listed, env, a, W, hl, hls, hsz, hkl, h, hf, hS => by
  have h0 : L[k]? = some o := by simpa using (hl 0).symm
  have hkL : k < L.length := (List.getElem?_eq_some_iff.1 h0).1
  obtain ⟨d, v, hd, hn, hw, hrest⟩ := h
  have hun : ∀ j, j < L.length → listed.getD j true = decide (j < k) := fun j hj => by rw [Array.getD_eq_getD_getElem?, hls j hj]; rfl
  refine wpAnyO_first (v := v) (i := k) (by simpa using h0) (fun j o cs b hj => hok.sel j o (by simpa using hj) cs b) (fun c a w => hQ c a _ _ w) l.length listed a W hS (fun j oj hj hne hlj hno => ?_) ?_ ?_ ?_
  ·have hj' : L[j]? = some oj := by simpa using hj
   have hjl : j < L.length := (List.getElem?_eq_some_iff.1 hj').1
   have hkj : k < j := by
    rw [hun j hjl] at hlj
    simp at hlj
    omega
   obtain ⟨dj, hdj⟩ := hok.dst j oj hj'
   unfold Oper.apart
   rw [hd, hdj]
   have a1 : (oj.looksAt L.toArray).contains d = false := by
    cases hc : (oj.looksAt L.toArray).contains d with
    | false => rfl
    | true =>
     obtain ⟨_, e, he, hb, hon⟩ := hok.look j oj hj' d (by simpa using hc) k o h0 hd
     exact absurd hon (hno e he hb)
   have a2 : (o.looksAt L.toArray).contains dj = false := by
    cases hc : (o.looksAt L.toArray).contains dj with
    | false => rfl
    | true =>
     have := (hok.look k o h0 dj (by simpa using hc) j oj hj' hdj).1
     omega
   have a3 : (some dj != some d) = true := by
    have := hok.diff k j o oj d (by omega) h0 hj' hd
    rw [hdj] at this
    simpa using this
   simp only [a1, a2, a3]
   rfl
  ·rw [mem_ready]
   refine ⟨by rw [hun k hkL]; simp, o, by simpa using h0, fun e he hb => ?_⟩
   have hlt := hok.aft k o h0 e he hb
   rw [Array.getD_eq_getD_getElem?, hls e.on (by omega)]
   simpa using hlt
  ·rcases hw with ⟨hw, hq⟩ | ⟨hw, rfl⟩
   ·exact .inl ⟨hw.wanted hf, fun w' hs' => (hq a w' hf hs').gives⟩
   ·exact .inr ⟨hw.wanted hf, rfl⟩
  ·rw [hd]
   refine lx_sound hok hQ l (k + 1) _ _ _ W (fun j => by have := hl (j + 1); simpa [Nat.add_assoc, Nat.add_comm 1 j] using this) (fun i hi => ?_) (by simpa using hsz) (by simp at hkl; omega) hrest (hf.put hn v) hS
   by_cases e : k = i
   ·subst e
    rw [Array.getElem?_setIfInBounds_self_of_lt (by rw [hsz]; exact hkL)]
    simp
   ·rw [Array.getElem?_setIfInBounds_ne e, hls i hi]
    congr 1
    simp
    omega
theorem lx_start {id : Nat} {l : List Oper} {env : List (Nat × Value)} (hm : P.follows .mixedOrders = true) (hB : lexFast l = true) (hQ : ∀ c a d v w, Q (.panic c) (Act.put a d v) w → Q (.panic c) a w) (h : Lx P l.toArray n w0 Rs (fun a w => Q .normal a w) l env) :
  At n env w0 Rs (fun a w => (Code.region id l.toArray true).wp P Q a w) := fun a w hf hs => by
 refine wp_region_O (B := stB w0 Rs) hs hm rfl fun _ => ?_
 have := lx_sound (P := P) (lexFast_ok hB) hQ l 0 (Array.replicate l.toArray.size false) env a w (by simp) (fun i hi => by simp [hi]) (by simp) (by simp) h hf hs
 simpa using this
theorem lx_end {env : List (Nat × Value)} (h : At n env w0 Rs K) : Lx P ops n w0 Rs K [] env := h
theorem lx_q {env : List (Nat × Value)} {o : Oper} {l : List Oper} {d : Nat} {v : Value} (hg : o.guard = none) (hd : o.dst = some d) (hn : d < n) (hq : Qt P o n env w0 Rs v) (h : Lx P ops n w0 Rs K l ((d, v) :: env)) : Lx P ops n w0 Rs K (o :: l) env := ⟨d, v, hd, hn, .inl ⟨.inl hg, hq⟩, h⟩
theorem lx_qg {env : List (Nat × Value)} {o : Oper} {l : List Oper} {d j dj : Nat} {v : Value} {c : Bool} {oj : Oper} (hg : o.guard = some (j, c)) (hj : ops[j]? = some oj) (hdj : oj.dst = some dj) (hb : look env dj = some (.bool c)) (hd : o.dst = some d) (hn : d < n) (hq : Qt P o n env w0 Rs v) (h : Lx P ops n w0 Rs K l ((d, v) :: env)) : Lx P ops n w0 Rs K (o :: l) env :=
 ⟨d, v, hd, hn, .inl ⟨.inr ⟨j, c, oj, dj, hg, hj, hdj, hb⟩, hq⟩, h⟩
theorem lx_off {env : List (Nat × Value)} {o : Oper} {l : List Oper} {d j dj : Nat} {b c : Bool} {oj : Oper} (hg : o.guard = some (j, c)) (hj : ops[j]? = some oj) (hdj : oj.dst = some dj) (hb : look env dj = some (.bool b)) (hne : b ≠ c) (hd : o.dst = some d) (hn : d < n) (h : Lx P ops n w0 Rs K l ((d, undef) :: env)) : Lx P ops n w0 Rs K (o :: l) env :=
 ⟨d, undef, hd, hn, .inr ⟨⟨j, c, oj, dj, hg, hj, hdj, .inr ⟨b, hb, hne⟩⟩, rfl⟩, h⟩
theorem lx_offu {env : List (Nat × Value)} {o : Oper} {l : List Oper} {d j dj : Nat} {c : Bool} {oj : Oper} (hg : o.guard = some (j, c)) (hj : ops[j]? = some oj) (hdj : oj.dst = some dj) (hb : look env dj = some undef) (hd : o.dst = some d) (hn : d < n) (h : Lx P ops n w0 Rs K l ((d, undef) :: env)) : Lx P ops n w0 Rs K (o :: l) env :=
 ⟨d, undef, hd, hn, .inr ⟨⟨j, c, oj, dj, hg, hj, hdj, .inl hb⟩, rfl⟩, h⟩
theorem Frm.congr {env env' : List (Nat × Value)} {a : Act} (h : Frm n env a) (he : ∀ t, look env' t = look env t) : Frm n env' a := ⟨h.size, fun t v hv => h.get t v (by rw [← he]; exact hv), h.defers⟩
theorem lx_congr : ∀ (l : List Oper) {env env' : List (Nat × Value)} (he : ∀ t, look env' t = look env t), Lx P ops n w0 Rs K l env' → Lx P ops n w0 Rs K l env
 | [], env, env', he, h => fun a w hf hs => h a w (hf.congr he) hs
 | o :: l, env, env', he, h => by
  obtain ⟨d, v, hd, hn, hw, hrest⟩ := h
  refine ⟨d, v, hd, hn, ?_, lx_congr l (fun t => ?_) hrest⟩
  ·rcases hw with ⟨hw, hq⟩ | ⟨hw, hv⟩
   ·refine .inl ⟨?_, fun a w hf hs => hq a w (hf.congr he) hs⟩
    rcases hw with hw | ⟨j, c, oj, dj, hg, hj, hdj, hb⟩
    ·exact .inl hw
    ·exact .inr ⟨j, c, oj, dj, hg, hj, hdj, by rw [← he]; exact hb⟩
   ·refine .inr ⟨?_, hv⟩
    obtain ⟨j, c, oj, dj, hg, hj, hdj, hb | ⟨b, hb, hne⟩⟩ := hw
    ·exact ⟨j, c, oj, dj, hg, hj, hdj, .inl (by rw [← he]; exact hb)⟩
    ·exact ⟨j, c, oj, dj, hg, hj, hdj, .inr ⟨b, by rw [← he]; exact hb, hne⟩⟩
  ·simp only [look]
   split
   ·rfl
   ·exact he t
theorem lx_as {l : List Oper} {env : List (Nat × Value)} (t : Nat) (v' : Value) {v : Value} (hv : look env t = some v) (e : v = v') (h : Lx P ops n w0 Rs K l ((t, v') :: env)) : Lx P ops n w0 Rs K l env := lx_congr l (fun k => by
 simp only [look]
 split
 ·rename_i hb
  have : t = k := Nat.eq_of_beq_eq_true hb
  subst this
  rw [hv, e]
 ·rfl) h
theorem lx_bsplit {l : List Oper} {env : List (Nat × Value)} (d : Nat) {t : Bool} (hv : look env d = some (.bool t)) (h1 : t = true → Lx P ops n w0 Rs K l ((d, .bool true) :: env)) (h2 : t = false → Lx P ops n w0 Rs K l ((d, .bool false) :: env)) : Lx P ops n w0 Rs K l env := by
 cases t with
 | true => exact lx_as d (.bool true) hv rfl (h1 rfl)
 | false => exact lx_as d (.bool false) hv rfl (h2 rfl)
end
theorem l03Sign_any (n : Int) (w : World) : Calls Try.prog 53 #[.int .i64 n] w fun e w' => e = .returned (.int .i64 (sgn n)) ∧ Over w w' := by
 refine walk_from (m := 9) (Try.func53) rfl rfl (Nat.le_of_ble_eq_true rfl) ?_
 refine at_seq ?_
 refine at_region ?_
 refine at_q rfl rfl (by decide) (qt_assign rfl rfl) ?_
 refine at_end ?_
 refine at_seq ?_
 refine at_block ?_
 refine at_seq ?_
 refine at_region ?_
 refine at_q rfl rfl (by decide) (qt_move rfl rfl) ?_
 refine at_q rfl rfl (by decide) (qt_gtr rfl rfl rfl) ?_
 refine at_q rfl rfl (by decide) (qt_assign rfl rfl) ?_
 refine at_end ?_
 refine at_cond rfl (fun c1 => ?_) (fun c1 => ?_)
 ·try simp only [za,zb,zc,zd,ze,zf,Bool.not_true,Bool.not_false,zg,zh,ne_eq,zi,zj] at c1
  refine at_seq ?_
  refine at_region ?_
  refine at_q rfl rfl (by decide) (qt_assign rfl rfl) ?_
  refine at_end ?_
  refine at_retc ?_
  refine pass_ret ?_
  refine then_ret ?_
  refine at_ret1 rfl (.tmp rfl) ?_
  intro w' hs
  exact ⟨retI (by have := sgn3 n; omega), hs.fin⟩
 ·try simp only [za,zb,zc,zd,ze,zf,Bool.not_true,Bool.not_false,zg,zh,ne_eq,zi,zj] at c1
  refine at_seq ?_
  refine at_region ?_
  refine at_q rfl rfl (by decide) (qt_move rfl rfl) ?_
  refine at_q rfl rfl (by decide) (qt_lss rfl rfl rfl) ?_
  refine at_q rfl rfl (by decide) (qt_assign rfl rfl) ?_
  refine at_end ?_
  refine at_cond rfl (fun c2 => ?_) (fun c2 => ?_)
  ·try simp only [za,zb,zc,zd,ze,zf,Bool.not_true,Bool.not_false,zg,zh,ne_eq,zi,zj] at c2
   refine at_seq ?_
   refine at_region ?_
   refine at_q rfl rfl (by decide) (qt_assign rfl rfl) ?_
   refine at_end ?_
   refine at_retc ?_
   refine pass_ret ?_
   refine then_ret ?_
   refine at_ret1 rfl (.tmp rfl) ?_
   intro w' hs
   exact ⟨retI (by have := sgn3 n; omega), hs.fin⟩
  ·try simp only [za,zb,zc,zd,ze,zf,Bool.not_true,Bool.not_false,zg,zh,ne_eq,zi,zj] at c2
   refine at_skip ?_
   refine norm_block ?_
   refine norm_then ?_
   refine at_seq ?_
   refine at_region ?_
   refine at_q rfl rfl (by decide) (qt_assign rfl rfl) ?_
   refine at_end ?_
   refine at_retc ?_
   refine at_ret1 rfl (.tmp rfl) ?_
   intro w' hs
   exact ⟨retI (by have := sgn3 n; omega), hs.fin⟩
theorem l03On_p (a b c : Pn) (w : World) (ha : bd2 a) (hb : bd2 b) (hc : bd2 c) : Calls Try.prog 68 #[pV a, pV b, pV c] w fun e w' => e = .returned (.bool (on2 a b c)) ∧ Over w w' := by
 obtain ⟨a1, a2⟩ := bd2_wide ha; obtain ⟨b1, b2⟩ := bd2_wide hb; obtain ⟨c1, c2⟩ := bd2_wide hc
 exact l03On_any a.1 a.2 b.1 b.2 c.1 c.2 w a1 a2 b1 b2 c1 c2
theorem l03Turn_p (a b c : Pn) (w : World) (ha : bd2 a) (hb : bd2 b) (hc : bd2 c) : Calls Try.prog 54 #[pV a, pV b, pV c] w fun e w' => e = .returned (.int .i64 (tn a b c)) ∧ Over w w' := by
 obtain ⟨a1, a2⟩ := bd2_wide ha; obtain ⟨b1, b2⟩ := bd2_wide hb; obtain ⟨c1, c2⟩ := bd2_wide hc
 exact l03Turn_any a.1 a.2 b.1 b.2 c.1 c.2 w a1.1 a1.2 a2.1 a2.2 b1.1 b1.2 b2.1 b2.2 c1.1 c1.2 c2.1 c2.2
section
variable {w0 : Bs} {Rs : List Res}
/-- A point of a slice of points, in all worlds in which it reads so. -/
theorem rdPtsR {b o m j : Nat} {xs : List (Int × Int)} (h : ∀ w, St w0 Rs w → Pts w (some ⟨b, o, none⟩) m xs) (hj : j < m) : ∀ w', St w0 Rs w' → ∀ q v, [Value.int .i64 (px xs j), Value.int .i64 (py xs j)][q]? = some v → w'.cell? ⟨b, o + j * 2 + q, none⟩ = some v := fun w' hs q v hv => by
 obtain ⟨b', o', e, _, h1, h2⟩ := (h w' hs).at_ hj
 injection e with e
 injection e with e1 e2 _
 subst e1 e2
 match q, hv with
 | 0, hv => simp at hv; subst hv; exact h1
 | 1, hv => simp at hv; subst hv; exact h2
end
def four (a b c d : Pn) (i : Nat) : Pn := [a, b, c, d].getD i (0, 0)
theorem four_bd {a b c d : Pn} (ha : bd2 a) (hb : bd2 b) (hc : bd2 c) (hd : bd2 d) {i : Nat} (hi : i < 4) : bd2 (four a b c d i) := by
 match i, hi with
 | 0, _ => exact ha
 | 1, _ => exact hb
 | 2, _ => exact hc
 | 3, _ => exact hd
theorem four_cells_ (a b c d : Pn) {i : Nat} (hi : i < 4) : [Value.int .i64 a.1, .int .i64 a.2, .int .i64 b.1, .int .i64 b.2, .int .i64 c.1, .int .i64 c.2, .int .i64 d.1, .int .i64 d.2][0 + i * 2]? = some (.int .i64 (four a b c d i).1) ∧
  [Value.int .i64 a.1, .int .i64 a.2, .int .i64 b.1, .int .i64 b.2, .int .i64 c.1, .int .i64 c.2, .int .i64 d.1, .int .i64 d.2][0 + i * 2 + 1]? = some (.int .i64 (four a b c d i).2) := by
 match i, hi with
 | 0, _ => exact ⟨rfl, rfl⟩
 | 1, _ => exact ⟨rfl, rfl⟩
 | 2, _ => exact ⟨rfl, rfl⟩
 | 3, _ => exact ⟨rfl, rfl⟩
/-- The ends found among the first i. -/
def endsK (a b c d : Pn) : Nat → List Pn
 | 0 => []
 | i + 1 => addE a b c d (endsK a b c d i) (four a b c d i)
theorem endsK_all (a b c d : Pn) : endsK a b c d 4 = endsM a b c d := rfl
theorem endsK_len (a b c d : Pn) : ∀ i, (endsK a b c d i).length ≤ i
 | 0 => by simp [endsK]
 | i + 1 => by
  have := endsK_len a b c d i
  simp only [endsK, addE]
  split
  ·simp; omega
  ·omega
theorem contains_step {es : List Pn} {k : Nat} (hk : k < es.length) (p : Pn) : (es.take (k + 1)).contains p = ((es.take k).contains p || (px es k == p.1 && py es k == p.2)) := by
 rw [List.take_succ_eq_append_getElem hk]
 rw [Bool.eq_iff_iff]
 simp only [List.contains_eq_mem, List.mem_append, List.mem_singleton, decide_eq_true_eq, Bool.or_eq_true, Bool.and_eq_true, beq_iff_eq]
 rw [at_p hk]
 obtain ⟨x, y⟩ := p
 simp only [Prod.mk.injEq]
 constructor
 ·rintro (h | h)
  ·exact .inl h
  ·exact .inr ⟨h.1.symm, h.2.symm⟩
 ·rintro (h | h)
  ·exact .inl h
  ·exact .inr ⟨h.1.symm, h.2.symm⟩
theorem endsK_step {a b c d : Pn} {i : Nat} {t : Bool} (h : t = (!((endsK a b c d i).contains (four a b c d i)) && bothM a b c d (four a b c d i))) : endsK a b c d (i + 1) = if t = true then endsK a b c d i ++ [four a b c d i] else endsK a b c d i := by rw [h]; rfl
theorem l03Ends_any (a b c d : Pn) (w : World) (ha : bd2 a) (hb : bd2 b) (hc : bd2 c) (hd : bd2 d) : Calls Try.prog 52 #[pV a, pV b, pV c, pV d] w fun e w' => ∃ v, e = .returned v ∧ w'.ownsRow w.heap.size 49 2 v (endsM a b c d).length ((endsM a b c d).flatMap ptCells) ∧ Over w w' := by
 refine walk_from (m := 63) (Try.func52) rfl rfl (Nat.le_of_ble_eq_true rfl) ?_
 refine at_seq ?_
 refine at_region ?_
 refine at_op rfl ?_
 refine op_box rfl rfl (rfl) rfl (by decide) (fun b1 => ?_)
 refine at_rsE (by simp only [ya,yb,yc,yd,Value.cells,ye]; rfl) ?_
 refine at_op rfl ?_
 refine op_box rfl rfl (rfl) rfl (by decide) (fun b2 => ?_)
 refine at_rsE (by simp only [ya,yb,yc,yd,Value.cells,ye]; rfl) ?_
 refine at_op rfl ?_
 refine op_box rfl rfl (rfl) rfl (by decide) (fun b3 => ?_)
 refine at_rsE (by simp only [ya,yb,yc,yd,Value.cells,ye]; rfl) ?_
 refine at_op rfl ?_
 refine op_box rfl rfl (rfl) rfl (by decide) (fun b4 => ?_)
 refine at_rsE (by simp only [ya,yb,yc,yd,Value.cells,ye]; rfl) ?_
 refine at_q rfl rfl (by decide) (qt_assign rfl rfl) ?_
 refine at_end ?_
 refine at_seq ?_
 refine at_region ?_
 refine at_op rfl ?_
 refine op_buildSlice rfl rfl (bsl_sl_impl_Pt_0) rfl (by decide) (fun b5 => ?_)
 refine at_rowN 4 2 rfl rfl ?_
 refine at_rsE (by simp only [ya,yb,yc,yd,Value.cells,ye]; rfl) ?_
 refine at_q rfl rfl (by decide) (qt_assign rfl rfl) ?_
 refine at_end ?_
 refine at_seq ?_
 refine at_region ?_
 refine at_q rfl rfl (by decide) (qt_loadS rfl rfl tys_impl_Pt rfl (rdAll (k := 0) rfl)) ?_
 refine at_q rfl rfl (by decide) (qt_loadS rfl rfl tys_impl_Pt rfl (rdAll (k := 1) rfl)) ?_
 refine at_q rfl rfl (by decide) (qt_loadS rfl rfl tys_impl_Pt rfl (rdAll (k := 2) rfl)) ?_
 refine at_q rfl rfl (by decide) (qt_loadS rfl rfl tys_impl_Pt rfl (rdAll (k := 3) rfl)) ?_
 refine at_op rfl ?_
 refine op_buildSlice rfl rfl (bsl_sl_impl_Pt_4_0_1_2_3 rfl rfl rfl rfl) rfl (by decide) (fun b6 => ?_)
 refine at_rsE (by simp only [ya,yb,yc,yd,Value.cells,ye]; rfl) ?_
 refine at_q rfl rfl (by decide) (qt_assign rfl rfl) ?_
 refine at_end ?_
 refine at_seq ?_
 refine at_seq ?_
 refine at_region ?_
 refine at_q rfl rfl (by decide) (qt_assign rfl rfl) ?_
 refine at_end ?_
 refine at_block ?_
 refine at_loopc (X := Nat × Option Addr × Nat) (fun x => x.1 ≤ 4) (fun x => 4 - x.1) (fun x => [(11, .int .i64 (x.1 : Int)), (9, .slice x.2.1 (endsK a b c d x.1).length x.2.2)]) (C := [(4, _), (5, _), (6, _), (7, _), (8, _), (10, _)]) ⟨rfl, rfl, rfl, rfl, rfl, rfl, trivial⟩ (fun x => [.cel b1 49 [.int .i64 a.1, .int .i64 a.2], .cel b2 49 [.int .i64 b.1, .int .i64 b.2], .cel b3 49 [.int .i64 c.1, .int .i64 c.2], .cel b4 49 [.int .i64 d.1, .int .i64 d.2], rowR (Bs.N ⟨w, []⟩) 49 2 (endsK a b c d x.1).length ((endsK a b c d x.1).flatMap ptCells) x.2, .cel b6 49 [.int .i64 a.1, .int .i64 a.2, .int .i64 b.1, .int .i64 b.2, .int .i64 c.1, .int .i64 c.2, .int .i64 d.1, .int .i64 d.2]]) (0, some ⟨b5, 0, none⟩, 0) (Nat.zero_le _) ⟨rfl, rfl, rfl, rfl, rfl, rfl, rfl, rfl, trivial⟩ (fun _ h => h) ?_
 intro ⟨i, eA, ec⟩ hx L hL1
 refine at_envE (by simp only [ya,yb]; rfl) ?_
 refine at_rsE (by first | (dsimp only; done) | (dsimp only; rfl) | rfl) ?_
 have hi : i ≤ 4 := hx
 have hel := endsK_len a b c d i
 obtain ⟨es, hes⟩ : ∃ es, endsK a b c d i = es := ⟨_, rfl⟩
 rw [hes] at hel
 simp only [hes]
 refine at_seq ?_
 refine at_seq ?_
 refine at_region ?_
 refine at_q rfl rfl (by decide) (qt_move rfl rfl) ?_
 refine at_q rfl rfl (by decide) (qt_lss rfl rfl rfl) ?_
 refine at_end ?_
 refine at_cond rfl (fun c1 => ?_) (fun c1 => ?_)
 ·try simp only [za,zb,zc,zd,ze,zf,Bool.not_true,Bool.not_false,zg,zh,ne_eq,zi,zj] at c1
  have hlt : i < 4 := (by omega)
  obtain ⟨p, hp⟩ : ∃ p, four a b c d i = p := ⟨_, rfl⟩
  have hpb : bd2 p := hp ▸ four_bd ha hb hc hd hlt
  obtain ⟨f1, f2⟩ := four_cells_ a b c d hlt
  rw [hp] at f1 f2
  refine at_skip ?_
  refine norm_then ?_
  refine at_seq ?_
  refine at_block ?_
  refine at_seq ?_
  refine at_region ?_
  refine at_q rfl rfl (by decide) (qt_move rfl rfl) ?_
  refine at_q rfl rfl (by decide) (qt_move rfl rfl) ?_
  refine at_q rfl rfl (by decide) (qt_index rfl rfl rfl tyl_sl_impl_Pt (by omega)) ?_
  refine at_q rfl rfl (by decide) (qt_loadS rfl rfl tys_impl_Pt rfl (rd2 (k := 5) rfl f1 f2)) ?_
  refine at_op rfl ?_
  refine op_alloc rfl tyz_impl_Pt rfl (by decide) (fun b7 => ?_)
  refine at_rsE (by simp only [ya,yb,yc,yd,Value.cells,ye]; rfl) ?_
  refine at_op rfl ?_
  refine op_storeAll' (k := 6) rfl rfl rfl rfl (rfl) (by rfl) tyz_impl_Pt.szx rfl rfl rfl ?_
  refine at_rsE (by simp only [ya,yb,yc,yd,Value.cells,ye]; rfl) ?_
  refine at_end ?_
  refine at_seq ?_
  refine at_region ?_
  refine at_q rfl rfl (by decide) (qt_assign rfl rfl) ?_
  refine at_end ?_
  refine at_seq ?_
  refine at_seq ?_
  refine at_region ?_
  refine at_q rfl rfl (by decide) (qt_assign rfl rfl) ?_
  refine at_end ?_
  refine at_block ?_
  refine at_loopk (X := Nat) (fun k => k ≤ es.length) (fun k => es.length - k) (fun k => [(14, .int .i64 (k : Int)), (13, .bool ((es.take k).contains p))]) (C := [(4, _), (5, _), (6, _), (7, _), (8, _), (10, _), (11, _), (9, _), (21, _), (22, _), (25, _), (26, _), (27, _), (28, _), (12, _)]) ⟨rfl, rfl, rfl, rfl, rfl, rfl, rfl, rfl, rfl, rfl, rfl, rfl, rfl, rfl, rfl, trivial⟩ 0 (Nat.zero_le _) ⟨rfl, rfl, rfl, rfl, rfl, rfl, rfl, rfl, rfl, rfl, rfl, rfl, rfl, rfl, rfl, rfl, rfl, trivial⟩ ?_
  intro k hk L hL2
  refine at_envE (by simp only [ya,yb]; rfl) ?_
  refine at_seq ?_
  refine at_seq ?_
  refine at_region ?_
  refine at_q rfl rfl (by decide) (qt_move rfl rfl) ?_
  refine at_q rfl rfl (by decide) (qt_move rfl rfl) ?_
  refine at_q rfl rfl (by decide) (qt_len rfl rfl tyl_sl_impl_Pt) ?_
  refine at_q rfl rfl (by decide) (qt_lss rfl rfl rfl) ?_
  refine at_end ?_
  refine at_cond rfl (fun c2 => ?_) (fun c2 => ?_)
  ·try simp only [za,zb,zc,zd,ze,zf,Bool.not_true,Bool.not_false,zg,zh,ne_eq,zi,zj] at c2
   have hkt : k < es.length := (by omega)
   have hcs := contains_step hkt p
   refine at_fact (fun w hs => rowSome (k := 4) rfl hs (by omega)) ?_
   rintro ⟨eg, rfl⟩
   refine at_skip ?_
   refine norm_then ?_
   refine at_seq ?_
   refine at_block ?_
   refine dg_start mixed rfl ?_
   refine dg_phase 10 ?_
   refine dg_q (i := 0) rfl (by kernel_rfl) (by kernel_rfl) (by kernel_rfl) [] (by kernel_rfl) (fun _ _ _ h => h) rfl rfl (by decide) (fun _ h => h.upto ⟨rfl, rfl, rfl, rfl, rfl, rfl, rfl, trivial⟩) (qt_move rfl rfl) ?_
   refine dg_q (i := 1) rfl (by kernel_rfl) (by kernel_rfl) (by kernel_rfl) [] (by kernel_rfl) (fun _ _ _ h => h) rfl rfl (by decide) (fun _ h => h.upto ⟨rfl, rfl, rfl, rfl, rfl, rfl, rfl, trivial⟩) (qt_move rfl rfl) ?_
   refine at_bsplit 36 rfl (fun g1 => ?_) (fun g1 => ?_)
   ·try simp only [za,zb,zc,zd,ze,zf,Bool.not_true,Bool.not_false,zg,zh,ne_eq,zi,zj] at g1
    refine dg_off (i := 2) rfl (by kernel_rfl) (by kernel_rfl) (by kernel_rfl) [] (by kernel_rfl) (fun _ _ _ h => h) rfl rfl rfl rfl (by decide) rfl (by decide) (fun _ h => h.upto ⟨rfl, rfl, rfl, rfl, rfl, rfl, rfl, trivial⟩) ?_
    refine dg_off (i := 3) rfl (by kernel_rfl) (by kernel_rfl) (by kernel_rfl) [] (by kernel_rfl) (fun _ _ _ h => h) rfl rfl rfl rfl (by decide) rfl (by decide) (fun _ h => h.upto ⟨rfl, rfl, rfl, rfl, rfl, rfl, rfl, trivial⟩) ?_
    refine dg_off (i := 4) rfl (by kernel_rfl) (by kernel_rfl) (by kernel_rfl) [] (by kernel_rfl) (fun _ _ _ h => h) rfl rfl rfl rfl (by decide) rfl (by decide) (fun _ h => h.upto ⟨rfl, rfl, rfl, rfl, rfl, rfl, rfl, trivial⟩) ?_
    refine dg_off (i := 5) rfl (by kernel_rfl) (by kernel_rfl) (by kernel_rfl) [] (by kernel_rfl) (fun _ _ _ h => h) rfl rfl rfl rfl (by decide) rfl (by decide) (fun _ h => h.upto ⟨rfl, rfl, rfl, rfl, rfl, rfl, rfl, trivial⟩) ?_
    refine dg_off (i := 6) rfl (by kernel_rfl) (by kernel_rfl) (by kernel_rfl) [] (by kernel_rfl) (fun _ _ _ h => h) rfl rfl rfl rfl (by decide) rfl (by decide) (fun _ h => h.upto ⟨rfl, rfl, rfl, rfl, rfl, rfl, rfl, trivial⟩) ?_
    refine dg_off (i := 7) rfl (by kernel_rfl) (by kernel_rfl) (by kernel_rfl) [] (by kernel_rfl) (fun _ _ _ h => h) rfl rfl rfl rfl (by decide) rfl (by decide) (fun _ h => h.upto ⟨rfl, rfl, rfl, rfl, rfl, rfl, rfl, trivial⟩) ?_
    refine dg_q (i := 8) rfl (by kernel_rfl) (by kernel_rfl) (by kernel_rfl) [] (by kernel_rfl) (fun _ _ _ h => h) rfl rfl (by decide) (fun _ h => h.upto ⟨rfl, rfl, rfl, rfl, rfl, rfl, rfl, trivial⟩) (qt_pickT rfl rfl rfl) ?_
    refine dg_q (i := 9) rfl (by kernel_rfl) (by kernel_rfl) (by kernel_rfl) [] (by kernel_rfl) (fun _ _ _ h => h) rfl rfl (by decide) (fun _ h => h.upto ⟨rfl, rfl, rfl, rfl, rfl, rfl, rfl, trivial⟩) (qt_assign rfl rfl) ?_
    refine dg_done (by kernel_rfl) ?_
    refine norm_block ?_
    refine norm_then ?_
    refine at_region ?_
    refine at_q rfl rfl (by decide) (qt_move rfl rfl) ?_
    refine at_q rfl rfl (by decide) (qt_add rfl rfl rfl (by omega) (by omega)) ?_
    refine at_q rfl rfl (by decide) (qt_assign rfl rfl) ?_
    refine at_end ?_
    exact at_againk hL2 (k + 1) (by omega) (by omega) ⟨vi (by omega), vb (by rw [hcs, g1]; rfl), rfl, rfl, rfl, rfl, rfl, rfl, rfl, rfl, rfl, rfl, rfl, rfl, rfl, rfl, rfl, trivial⟩ (fun _ h => h.upto ⟨rfl, rfl, rfl, rfl, rfl, rfl, rfl, trivial⟩)
   ·try simp only [za,zb,zc,zd,ze,zf,Bool.not_true,Bool.not_false,zg,zh,ne_eq,zi,zj] at g1
    refine dg_qg (i := 2) rfl (by kernel_rfl) (by kernel_rfl) (by kernel_rfl) [] (by kernel_rfl) (fun _ _ _ h => h) rfl rfl rfl rfl rfl (by decide) (fun _ h => h.upto ⟨rfl, rfl, rfl, rfl, rfl, rfl, rfl, trivial⟩) (qt_move rfl rfl) ?_
    refine dg_qg (i := 3) rfl (by kernel_rfl) (by kernel_rfl) (by kernel_rfl) [] (by kernel_rfl) (fun _ _ _ h => h) rfl rfl rfl rfl rfl (by decide) (fun _ h => h.upto ⟨rfl, rfl, rfl, rfl, rfl, rfl, rfl, trivial⟩) (qt_move rfl rfl) ?_
    refine dg_qg (i := 4) rfl (by kernel_rfl) (by kernel_rfl) (by kernel_rfl) [] (by kernel_rfl) (fun _ _ _ h => h) rfl rfl rfl rfl rfl (by decide) (fun _ h => h.upto ⟨rfl, rfl, rfl, rfl, rfl, rfl, rfl, trivial⟩) (qt_index rfl rfl rfl tyl_sl_impl_Pt (by omega)) ?_
    refine dg_qg (i := 5) rfl (by kernel_rfl) (by kernel_rfl) (by kernel_rfl) [] (by kernel_rfl) (fun _ _ _ h => h) rfl rfl rfl rfl rfl (by decide) (fun _ h => h.upto ⟨rfl, rfl, rfl, rfl, rfl, rfl, rfl, trivial⟩) (qt_loadS rfl rfl tys_impl_Pt rfl (rdPtsR (fun w' hs => ptsRow (hs.all 4 _ rfl).1 rfl) hkt)) ?_
    refine dg_qg (i := 6) rfl (by kernel_rfl) (by kernel_rfl) (by kernel_rfl) [] (by kernel_rfl) (fun _ _ _ h => h) rfl rfl rfl rfl rfl (by decide) (fun _ h => h.upto ⟨rfl, rfl, rfl, rfl, rfl, rfl, rfl, trivial⟩) (qt_loadS rfl rfl tys_impl_Pt rfl (rdAll (k := 6) rfl)) ?_
    refine dg_qg (i := 7) rfl (by kernel_rfl) (by kernel_rfl) (by kernel_rfl) [] (by kernel_rfl) (fun _ _ _ h => h) rfl rfl rfl rfl rfl (by decide) (fun _ h => h.upto ⟨rfl, rfl, rfl, rfl, rfl, rfl, rfl, trivial⟩) (qt_eqlS_impl_Pt rfl rfl rfl) ?_
    refine dg_q (i := 8) rfl (by kernel_rfl) (by kernel_rfl) (by kernel_rfl) [] (by kernel_rfl) (fun _ _ _ h => h) rfl rfl (by decide) (fun _ h => h.upto ⟨rfl, rfl, rfl, rfl, rfl, rfl, rfl, trivial⟩) (qt_pickF rfl rfl rfl) ?_
    refine dg_q (i := 9) rfl (by kernel_rfl) (by kernel_rfl) (by kernel_rfl) [] (by kernel_rfl) (fun _ _ _ h => h) rfl rfl (by decide) (fun _ h => h.upto ⟨rfl, rfl, rfl, rfl, rfl, rfl, rfl, trivial⟩) (qt_assign rfl rfl) ?_
    refine dg_done (by kernel_rfl) ?_
    refine norm_block ?_
    refine norm_then ?_
    refine at_region ?_
    refine at_q rfl rfl (by decide) (qt_move rfl rfl) ?_
    refine at_q rfl rfl (by decide) (qt_add rfl rfl rfl (by omega) (by omega)) ?_
    refine at_q rfl rfl (by decide) (qt_assign rfl rfl) ?_
    refine at_end ?_
    exact at_againk hL2 (k + 1) (by omega) (by omega) ⟨vi (by omega), vb (by rw [hcs, g1]; rfl), rfl, rfl, rfl, rfl, rfl, rfl, rfl, rfl, rfl, rfl, rfl, rfl, rfl, rfl, rfl, trivial⟩ (fun _ h => h.upto ⟨rfl, rfl, rfl, rfl, rfl, rfl, rfl, trivial⟩)
  ·try simp only [za,zb,zc,zd,ze,zf,Bool.not_true,Bool.not_false,zg,zh,ne_eq,zi,zj] at c2
   have hke : k = es.length := (by omega)
   subst hke
   rw [List.take_length]
   refine at_exit ?_
   refine pass_then (fun h => by cases h) ?_
   refine pass_then (fun h => by cases h) ?_
   refine pass_hit ?_
   refine norm_then ?_
   refine at_cutE [(57, .bool (!(es.contains p) && bothM a b c d p))] (C := [(4, _), (5, _), (6, _), (7, _), (8, _), (10, _), (11, _), (9, _), (21, _), (22, _), (25, _), (26, _), (27, _), (28, _), (12, _), (14, _), (13, _), (29, _), (30, _), (31, _), (32, _)])  ⟨rfl, rfl, rfl, rfl, rfl, rfl, rfl, rfl, rfl, rfl, rfl, rfl, rfl, rfl, rfl, rfl, rfl, rfl, rfl, rfl, rfl, trivial⟩ (fun L hC_cut_12 => ?_) ?_
   ·refine at_region ?_
    refine at_q rfl rfl (by decide) (qt_move rfl rfl) ?_
    refine at_q rfl rfl (by decide) (qt_not rfl rfl) ?_
    refine at_q rfl rfl (by decide) (qt_move rfl rfl) ?_
    refine at_bsplit 46 rfl (fun g2 => ?_) (fun g2 => ?_)
    ·try simp only [za,zb,zc,zd,ze,zf,Bool.not_true,Bool.not_false,zg,zh,ne_eq,zi,zj] at g2
     refine at_on rfl rfl rfl rfl ?_
     refine op_q rfl (by decide) (qt_loadS rfl rfl tys_impl_Pt rfl (rdAll (k := 0) rfl)) ?_
     refine at_on rfl rfl rfl rfl ?_
     refine op_q rfl (by decide) (qt_loadS rfl rfl tys_impl_Pt rfl (rdAll (k := 1) rfl)) ?_
     refine at_on rfl rfl rfl rfl ?_
     refine op_q rfl (by decide) (qt_loadS rfl rfl tys_impl_Pt rfl (rdAll (k := 6) rfl)) ?_
     refine at_on rfl rfl rfl rfl ?_
     refine op_q rfl (by decide) (qt_call ok_spec_l03On rfl rfl (fun w h => l03On_p a b p w ha hb hpb)) ?_
     refine at_q rfl rfl (by decide) (qt_pickT rfl rfl rfl) ?_
     refine at_q rfl rfl (by decide) (qt_move rfl rfl) ?_
     refine at_bsplit 52 rfl (fun g3 => ?_) (fun g3 => ?_)
     ·try simp only [za,zb,zc,zd,ze,zf,Bool.not_true,Bool.not_false,zg,zh,ne_eq,zi,zj] at g3
      refine at_on rfl rfl rfl rfl ?_
      refine op_q rfl (by decide) (qt_loadS rfl rfl tys_impl_Pt rfl (rdAll (k := 2) rfl)) ?_
      refine at_on rfl rfl rfl rfl ?_
      refine op_q rfl (by decide) (qt_loadS rfl rfl tys_impl_Pt rfl (rdAll (k := 3) rfl)) ?_
      refine at_on rfl rfl rfl rfl ?_
      refine op_q rfl (by decide) (qt_loadS rfl rfl tys_impl_Pt rfl (rdAll (k := 6) rfl)) ?_
      refine at_on rfl rfl rfl rfl ?_
      refine op_q rfl (by decide) (qt_call ok_spec_l03On rfl rfl (fun w h => l03On_p c d p w hc hd hpb)) ?_
      refine at_q rfl rfl (by decide) (qt_pickT rfl rfl rfl) ?_
      refine at_end ?_
      exact at_meet hC_cut_12 ⟨vb (by rw [bothM]; simp only [*, Bool.not_true, Bool.not_false, Bool.true_and, Bool.false_and]), rfl, rfl, rfl, rfl, rfl, rfl, rfl, rfl, rfl, rfl, rfl, rfl, rfl, rfl, rfl, rfl, rfl, rfl, rfl, rfl, rfl, trivial⟩ (fun _ h => h.upto ⟨rfl, rfl, rfl, rfl, rfl, rfl, rfl, trivial⟩)
     ·try simp only [za,zb,zc,zd,ze,zf,Bool.not_true,Bool.not_false,zg,zh,ne_eq,zi,zj] at g3
      refine at_off rfl rfl rfl rfl (by decide) rfl (by decide) ?_
      refine at_off rfl rfl rfl rfl (by decide) rfl (by decide) ?_
      refine at_off rfl rfl rfl rfl (by decide) rfl (by decide) ?_
      refine at_off rfl rfl rfl rfl (by decide) rfl (by decide) ?_
      refine at_q rfl rfl (by decide) (qt_pickF rfl rfl rfl) ?_
      refine at_end ?_
      exact at_meet hC_cut_12 ⟨vb (by rw [bothM]; simp only [*, Bool.not_true, Bool.not_false, Bool.true_and, Bool.false_and]), rfl, rfl, rfl, rfl, rfl, rfl, rfl, rfl, rfl, rfl, rfl, rfl, rfl, rfl, rfl, rfl, rfl, rfl, rfl, rfl, rfl, trivial⟩ (fun _ h => h.upto ⟨rfl, rfl, rfl, rfl, rfl, rfl, rfl, trivial⟩)
    ·try simp only [za,zb,zc,zd,ze,zf,Bool.not_true,Bool.not_false,zg,zh,ne_eq,zi,zj] at g2
     refine at_off rfl rfl rfl rfl (by decide) rfl (by decide) ?_
     refine at_off rfl rfl rfl rfl (by decide) rfl (by decide) ?_
     refine at_off rfl rfl rfl rfl (by decide) rfl (by decide) ?_
     refine at_off rfl rfl rfl rfl (by decide) rfl (by decide) ?_
     refine at_q rfl rfl (by decide) (qt_pickF rfl rfl rfl) ?_
     refine at_q rfl rfl (by decide) (qt_move rfl rfl) ?_
     refine at_off rfl rfl rfl rfl (by decide) rfl (by decide) ?_
     refine at_off rfl rfl rfl rfl (by decide) rfl (by decide) ?_
     refine at_off rfl rfl rfl rfl (by decide) rfl (by decide) ?_
     refine at_off rfl rfl rfl rfl (by decide) rfl (by decide) ?_
     refine at_q rfl rfl (by decide) (qt_pickF rfl rfl rfl) ?_
     refine at_end ?_
     exact at_meet hC_cut_12 ⟨vb (by rw [bothM]; simp only [*, Bool.not_true, Bool.not_false, Bool.true_and, Bool.false_and]), rfl, rfl, rfl, rfl, rfl, rfl, rfl, rfl, rfl, rfl, rfl, rfl, rfl, rfl, rfl, rfl, rfl, rfl, rfl, rfl, rfl, trivial⟩ (fun _ h => h.upto ⟨rfl, rfl, rfl, rfl, rfl, rfl, rfl, trivial⟩)
   ·refine at_envE (by simp only [ya,yb]; rfl) ?_
    refine at_cond rfl (fun c3 => ?_) (fun c3 => ?_)
    ·try simp only [za,zb,zc,zd,ze,zf,Bool.not_true,Bool.not_false,zg,zh,ne_eq,zi,zj] at c3
     have hst := endsK_step (a := a) (b := b) (c := c) (d := d) (i := i) (t := true) (by rw [hes, hp, c3])
     rw [if_pos rfl, hes, hp] at hst
     refine at_region ?_
     refine at_q rfl rfl (by decide) (qt_move rfl rfl) ?_
     refine at_q rfl rfl (by decide) (qt_loadS rfl rfl tys_impl_Pt rfl (rdAll (k := 6) rfl)) ?_
     refine at_op rfl ?_
     refine op_buildSlice rfl rfl (bsl_sl_impl_Pt_1_0 rfl) rfl (by decide) (fun b8 => ?_)
     refine at_rsE (by simp only [ya,yb,yc,yd,Value.cells,ye]; rfl) ?_
     refine at_op rfl ?_
     refine op_appendR (k := 4) rfl tyl_sl_impl_Pt tyz_impl_Pt (by decide) rfl (by decide) rfl rfl rfl (fun w' hs => src_cel hs (k := 7) rfl rfl) (by simp [Value.oneCell']) (by unfold maxLen; omega) (by omega) (Nat.le_refl _) (fun r1 => ?_)
     refine at_rsE (by simp only [ya,yb,yc,yd,Value.cells,ye]; rfl) ?_
     refine at_q rfl rfl (by decide) (qt_assign rfl rfl) ?_
     refine at_nil ?_
     refine norm_block ?_
     refine norm_then ?_
     refine at_region ?_
     refine at_q rfl rfl (by decide) (qt_move rfl rfl) ?_
     refine at_q rfl rfl (by decide) (qt_add rfl rfl rfl (by omega) (by omega)) ?_
     refine at_q rfl rfl (by decide) (qt_assign rfl rfl) ?_
     refine at_end ?_
     exact at_againc hL1 ((i + 1, r1)) ((show i + 1 ≤ 4 by omega)) (by simp only; omega) ⟨vi (by omega), by simp only [hst, List.length_append]; rfl, rfl, rfl, rfl, rfl, rfl, rfl, trivial⟩ (fun _ h => h.upto ⟨rfl, rfl, rfl, rfl, by simp only [hst, List.flatMap_append, List.length_append]; rfl, rfl, trivial⟩)
    ·try simp only [za,zb,zc,zd,ze,zf,Bool.not_true,Bool.not_false,zg,zh,ne_eq,zi,zj] at c3
     have hst := endsK_step (a := a) (b := b) (c := c) (d := d) (i := i) (t := false) (by rw [hes, hp, c3])
     rw [if_neg (by simp), hes] at hst
     refine at_skip ?_
     refine norm_block ?_
     refine norm_then ?_
     refine at_region ?_
     refine at_q rfl rfl (by decide) (qt_move rfl rfl) ?_
     refine at_q rfl rfl (by decide) (qt_add rfl rfl rfl (by omega) (by omega)) ?_
     refine at_q rfl rfl (by decide) (qt_assign rfl rfl) ?_
     refine at_end ?_
     exact at_againc hL1 ((i + 1, eA, ec)) ((show i + 1 ≤ 4 by omega)) (by simp only; omega) ⟨vi (by omega), by simp only [hst]; rfl, rfl, rfl, rfl, rfl, rfl, rfl, trivial⟩ (fun _ h => h.upto ⟨rfl, rfl, rfl, rfl, by simp only [hst], rfl, trivial⟩)
 ·try simp only [za,zb,zc,zd,ze,zf,Bool.not_true,Bool.not_false,zg,zh,ne_eq,zi,zj] at c1
  have hie : i = 4 := (by omega)
  subst hie
  rw [endsK_all] at hes
  refine at_exit ?_
  refine pass_then (fun h => by cases h) ?_
  refine pass_then (fun h => by cases h) ?_
  refine pass_hit ?_
  refine norm_then ?_
  refine at_seq ?_
  refine at_region ?_
  refine at_q rfl rfl (by decide) (qt_move rfl rfl) ?_
  refine at_q rfl rfl (by decide) (qt_assign rfl rfl) ?_
  refine at_end ?_
  refine at_retc ?_
  refine at_ret1 rfl (.tmp rfl) ?_
  intro w' hs
  exact ⟨_, rfl, by rw [hes]; exact (hs.all 4 _ rfl).1, hs.fin⟩

theorem meetS_len {a b c d : Pn} : ((endsM a b c d).length = 0 → meetS a b c d = if strictM a b c d = true then 2 else 0) ∧ ((endsM a b c d).length = 1 → meetS a b c d = 1) ∧ (¬ (endsM a b c d).length = 0 → ¬ (endsM a b c d).length = 1 → meetS a b c d = 3) := by
 unfold meetS
 refine ⟨fun h => by rw [if_pos h], fun h => by rw [if_neg (by omega), if_pos h], fun h h' => by rw [if_neg h, if_neg h']⟩
theorem l03Meeting_any (a b c d : Pn) (w : World) (ha : bd2 a) (hb : bd2 b) (hc : bd2 c) (hd : bd2 d) : Calls Try.prog 31 #[pV a, pV b, pV c, pV d] w fun e w' => e = .returned (.int .i64 (meetS a b c d)) ∧ Over w w' := by
 have m1 := sgn_mul_bd (tn a b c) (tn a b d)
 have m2 := sgn_mul_bd (tn c d a) (tn c d b)
 have hl := @meetS_len a b c d
 refine walk_from (m := 45) (Try.func31) rfl rfl (Nat.le_of_ble_eq_true rfl) ?_
 refine at_seq ?_
 refine at_region ?_
 refine at_op rfl ?_
 refine op_box rfl rfl (rfl) rfl (by decide) (fun b1 => ?_)
 refine at_rsE (by simp only [ya,yb,yc,yd,Value.cells,ye]; rfl) ?_
 refine at_op rfl ?_
 refine op_box rfl rfl (rfl) rfl (by decide) (fun b2 => ?_)
 refine at_rsE (by simp only [ya,yb,yc,yd,Value.cells,ye]; rfl) ?_
 refine at_op rfl ?_
 refine op_box rfl rfl (rfl) rfl (by decide) (fun b3 => ?_)
 refine at_rsE (by simp only [ya,yb,yc,yd,Value.cells,ye]; rfl) ?_
 refine at_op rfl ?_
 refine op_box rfl rfl (rfl) rfl (by decide) (fun b4 => ?_)
 refine at_rsE (by simp only [ya,yb,yc,yd,Value.cells,ye]; rfl) ?_
 refine at_q rfl rfl (by decide) (qt_assign rfl rfl) ?_
 refine at_end ?_
 refine at_seq ?_
 refine at_seq ?_
 refine at_region ?_
 refine at_q rfl rfl (by decide) (qt_loadS rfl rfl tys_impl_Pt rfl (rdAll (k := 0) rfl)) ?_
 refine at_q rfl rfl (by decide) (qt_loadS rfl rfl tys_impl_Pt rfl (rdAll (k := 1) rfl)) ?_
 refine at_q rfl rfl (by decide) (qt_loadS rfl rfl tys_impl_Pt rfl (rdAll (k := 2) rfl)) ?_
 refine at_q rfl rfl (by decide) (qt_loadS rfl rfl tys_impl_Pt rfl (rdAll (k := 3) rfl)) ?_
 refine at_op rfl ?_
 refine op_call ok_spec_l03Ends (v := fun x => .slice x.1 _ x.2) (r := fun x => rowR 0 49 2 _ _ x) (H := fun _ => True) rfl rfl rfl (by decide) (fun w1 hs => newRow' (l03Ends_any a b c d w1 ha hb hc hd)) ?_
 rintro ⟨eA, ec⟩ -
 refine at_rsE (by simp only [ya,yb,yc,yd,Value.cells,ye]; rfl) ?_
 refine at_q rfl rfl (by decide) (qt_len rfl rfl tyl_sl_impl_Pt) ?_
 refine at_end ?_
 refine at_block ?_
 refine at_seq ?_
 refine at_region ?_
 refine at_q rfl rfl (by decide) (qt_eql rfl rfl rfl) ?_
 refine at_q rfl rfl (by decide) (qt_assign rfl rfl) ?_
 refine at_end ?_
 refine at_cond rfl (fun c1 => ?_) (fun c1 => ?_)
 ·try simp only [za,zb,zc,zd,ze,zf,Bool.not_true,Bool.not_false,zg,zh,ne_eq,zi,zj] at c1
  refine at_seq ?_
  refine at_cutE [(42, .bool (strictM a b c d))] (C := [(8, _)])  ⟨rfl, trivial⟩ (fun L hC_cut_3 => ?_) ?_
  ·refine dg_start mixed rfl ?_
   refine dg_phase 26 ?_
   refine dg_q (i := 0) rfl (by kernel_rfl) (by kernel_rfl) (by kernel_rfl) [] (by kernel_rfl) (fun _ _ _ h => h) rfl rfl (by decide) (fun _ h => h.upto ⟨rfl, rfl, rfl, rfl, rfl, trivial⟩) (qt_loadS rfl rfl tys_impl_Pt rfl (rdAll (k := 0) rfl)) ?_
   refine dg_q (i := 1) rfl (by kernel_rfl) (by kernel_rfl) (by kernel_rfl) [] (by kernel_rfl) (fun _ _ _ h => h) rfl rfl (by decide) (fun _ h => h.upto ⟨rfl, rfl, rfl, rfl, rfl, trivial⟩) (qt_loadS rfl rfl tys_impl_Pt rfl (rdAll (k := 1) rfl)) ?_
   refine dg_q (i := 2) rfl (by kernel_rfl) (by kernel_rfl) (by kernel_rfl) [] (by kernel_rfl) (fun _ _ _ h => h) rfl rfl (by decide) (fun _ h => h.upto ⟨rfl, rfl, rfl, rfl, rfl, trivial⟩) (qt_loadS rfl rfl tys_impl_Pt rfl (rdAll (k := 2) rfl)) ?_
   refine dg_q (i := 3) rfl (by kernel_rfl) (by kernel_rfl) (by kernel_rfl) [] (by kernel_rfl) (fun _ _ _ h => h) rfl rfl (by decide) (fun _ h => h.upto ⟨rfl, rfl, rfl, rfl, rfl, trivial⟩) (qt_call ok_spec_l03Turn rfl rfl (fun w h => l03Turn_p _ _ _ w (by assumption) (by assumption) (by assumption))) ?_
   refine dg_q (i := 4) rfl (by kernel_rfl) (by kernel_rfl) (by kernel_rfl) [] (by kernel_rfl) (fun _ _ _ h => h) rfl rfl (by decide) (fun _ h => h.upto ⟨rfl, rfl, rfl, rfl, rfl, trivial⟩) (qt_call ok_spec_l03Sign rfl rfl (fun w h => l03Sign_any _ w)) ?_
   refine dg_q (i := 5) rfl (by kernel_rfl) (by kernel_rfl) (by kernel_rfl) [] (by kernel_rfl) (fun _ _ _ h => h) rfl rfl (by decide) (fun _ h => h.upto ⟨rfl, rfl, rfl, rfl, rfl, trivial⟩) (qt_loadS rfl rfl tys_impl_Pt rfl (rdAll (k := 0) rfl)) ?_
   refine dg_q (i := 6) rfl (by kernel_rfl) (by kernel_rfl) (by kernel_rfl) [] (by kernel_rfl) (fun _ _ _ h => h) rfl rfl (by decide) (fun _ h => h.upto ⟨rfl, rfl, rfl, rfl, rfl, trivial⟩) (qt_loadS rfl rfl tys_impl_Pt rfl (rdAll (k := 1) rfl)) ?_
   refine dg_q (i := 7) rfl (by kernel_rfl) (by kernel_rfl) (by kernel_rfl) [] (by kernel_rfl) (fun _ _ _ h => h) rfl rfl (by decide) (fun _ h => h.upto ⟨rfl, rfl, rfl, rfl, rfl, trivial⟩) (qt_loadS rfl rfl tys_impl_Pt rfl (rdAll (k := 3) rfl)) ?_
   refine dg_q (i := 8) rfl (by kernel_rfl) (by kernel_rfl) (by kernel_rfl) [] (by kernel_rfl) (fun _ _ _ h => h) rfl rfl (by decide) (fun _ h => h.upto ⟨rfl, rfl, rfl, rfl, rfl, trivial⟩) (qt_call ok_spec_l03Turn rfl rfl (fun w h => l03Turn_p _ _ _ w (by assumption) (by assumption) (by assumption))) ?_
   refine dg_q (i := 9) rfl (by kernel_rfl) (by kernel_rfl) (by kernel_rfl) [] (by kernel_rfl) (fun _ _ _ h => h) rfl rfl (by decide) (fun _ h => h.upto ⟨rfl, rfl, rfl, rfl, rfl, trivial⟩) (qt_call ok_spec_l03Sign rfl rfl (fun w h => l03Sign_any _ w)) ?_
   refine dg_q (i := 10) rfl (by kernel_rfl) (by kernel_rfl) (by kernel_rfl) [] (by kernel_rfl) (fun _ _ _ h => h) rfl rfl (by decide) (fun _ h => h.upto ⟨rfl, rfl, rfl, rfl, rfl, trivial⟩) (qt_mul rfl rfl rfl (by omega) (by omega)) ?_
   refine dg_q (i := 11) rfl (by kernel_rfl) (by kernel_rfl) (by kernel_rfl) [] (by kernel_rfl) (fun _ _ _ h => h) rfl rfl (by decide) (fun _ h => h.upto ⟨rfl, rfl, rfl, rfl, rfl, trivial⟩) (qt_lss rfl rfl rfl) ?_
   refine dg_q (i := 12) rfl (by kernel_rfl) (by kernel_rfl) (by kernel_rfl) [] (by kernel_rfl) (fun _ _ _ h => h) rfl rfl (by decide) (fun _ h => h.upto ⟨rfl, rfl, rfl, rfl, rfl, trivial⟩) (qt_move rfl rfl) ?_
   refine at_bsplit 29 rfl (fun g1 => ?_) (fun g1 => ?_)
   ·try simp only [za,zb,zc,zd,ze,zf,Bool.not_true,Bool.not_false,zg,zh,ne_eq,zi,zj] at g1
    refine dg_qg (i := 13) rfl (by kernel_rfl) (by kernel_rfl) (by kernel_rfl) [] (by kernel_rfl) (fun _ _ _ h => h) rfl rfl rfl rfl rfl (by decide) (fun _ h => h.upto ⟨rfl, rfl, rfl, rfl, rfl, trivial⟩) (qt_loadS rfl rfl tys_impl_Pt rfl (rdAll (k := 2) rfl)) ?_
    refine dg_qg (i := 14) rfl (by kernel_rfl) (by kernel_rfl) (by kernel_rfl) [] (by kernel_rfl) (fun _ _ _ h => h) rfl rfl rfl rfl rfl (by decide) (fun _ h => h.upto ⟨rfl, rfl, rfl, rfl, rfl, trivial⟩) (qt_loadS rfl rfl tys_impl_Pt rfl (rdAll (k := 3) rfl)) ?_
    refine dg_qg (i := 15) rfl (by kernel_rfl) (by kernel_rfl) (by kernel_rfl) [] (by kernel_rfl) (fun _ _ _ h => h) rfl rfl rfl rfl rfl (by decide) (fun _ h => h.upto ⟨rfl, rfl, rfl, rfl, rfl, trivial⟩) (qt_loadS rfl rfl tys_impl_Pt rfl (rdAll (k := 0) rfl)) ?_
    refine dg_qg (i := 16) rfl (by kernel_rfl) (by kernel_rfl) (by kernel_rfl) [] (by kernel_rfl) (fun _ _ _ h => h) rfl rfl rfl rfl rfl (by decide) (fun _ h => h.upto ⟨rfl, rfl, rfl, rfl, rfl, trivial⟩) (qt_call ok_spec_l03Turn rfl rfl (fun w h => l03Turn_p _ _ _ w (by assumption) (by assumption) (by assumption))) ?_
    refine dg_qg (i := 17) rfl (by kernel_rfl) (by kernel_rfl) (by kernel_rfl) [] (by kernel_rfl) (fun _ _ _ h => h) rfl rfl rfl rfl rfl (by decide) (fun _ h => h.upto ⟨rfl, rfl, rfl, rfl, rfl, trivial⟩) (qt_call ok_spec_l03Sign rfl rfl (fun w h => l03Sign_any _ w)) ?_
    refine dg_qg (i := 18) rfl (by kernel_rfl) (by kernel_rfl) (by kernel_rfl) [] (by kernel_rfl) (fun _ _ _ h => h) rfl rfl rfl rfl rfl (by decide) (fun _ h => h.upto ⟨rfl, rfl, rfl, rfl, rfl, trivial⟩) (qt_loadS rfl rfl tys_impl_Pt rfl (rdAll (k := 2) rfl)) ?_
    refine dg_qg (i := 19) rfl (by kernel_rfl) (by kernel_rfl) (by kernel_rfl) [] (by kernel_rfl) (fun _ _ _ h => h) rfl rfl rfl rfl rfl (by decide) (fun _ h => h.upto ⟨rfl, rfl, rfl, rfl, rfl, trivial⟩) (qt_loadS rfl rfl tys_impl_Pt rfl (rdAll (k := 3) rfl)) ?_
    refine dg_qg (i := 20) rfl (by kernel_rfl) (by kernel_rfl) (by kernel_rfl) [] (by kernel_rfl) (fun _ _ _ h => h) rfl rfl rfl rfl rfl (by decide) (fun _ h => h.upto ⟨rfl, rfl, rfl, rfl, rfl, trivial⟩) (qt_loadS rfl rfl tys_impl_Pt rfl (rdAll (k := 1) rfl)) ?_
    refine dg_qg (i := 21) rfl (by kernel_rfl) (by kernel_rfl) (by kernel_rfl) [] (by kernel_rfl) (fun _ _ _ h => h) rfl rfl rfl rfl rfl (by decide) (fun _ h => h.upto ⟨rfl, rfl, rfl, rfl, rfl, trivial⟩) (qt_call ok_spec_l03Turn rfl rfl (fun w h => l03Turn_p _ _ _ w (by assumption) (by assumption) (by assumption))) ?_
    refine dg_qg (i := 22) rfl (by kernel_rfl) (by kernel_rfl) (by kernel_rfl) [] (by kernel_rfl) (fun _ _ _ h => h) rfl rfl rfl rfl rfl (by decide) (fun _ h => h.upto ⟨rfl, rfl, rfl, rfl, rfl, trivial⟩) (qt_call ok_spec_l03Sign rfl rfl (fun w h => l03Sign_any _ w)) ?_
    refine dg_qg (i := 23) rfl (by kernel_rfl) (by kernel_rfl) (by kernel_rfl) [] (by kernel_rfl) (fun _ _ _ h => h) rfl rfl rfl rfl rfl (by decide) (fun _ h => h.upto ⟨rfl, rfl, rfl, rfl, rfl, trivial⟩) (qt_mul rfl rfl rfl (by omega) (by omega)) ?_
    refine dg_qg (i := 24) rfl (by kernel_rfl) (by kernel_rfl) (by kernel_rfl) [] (by kernel_rfl) (fun _ _ _ h => h) rfl rfl rfl rfl rfl (by decide) (fun _ h => h.upto ⟨rfl, rfl, rfl, rfl, rfl, trivial⟩) (qt_lss rfl rfl rfl) ?_
    refine dg_q (i := 25) rfl (by kernel_rfl) (by kernel_rfl) (by kernel_rfl) [] (by kernel_rfl) (fun _ _ _ h => h) rfl rfl (by decide) (fun _ h => h.upto ⟨rfl, rfl, rfl, rfl, rfl, trivial⟩) (qt_pickT rfl rfl rfl) ?_
    refine dg_done (by kernel_rfl) ?_
    refine norm_then ?_
    exact at_meet hC_cut_3 ⟨vb (by simp [strictM, *] <;> omega), rfl, trivial⟩ (fun _ h => h.upto ⟨rfl, rfl, rfl, rfl, rfl, trivial⟩)
   ·try simp only [za,zb,zc,zd,ze,zf,Bool.not_true,Bool.not_false,zg,zh,ne_eq,zi,zj] at g1
    refine dg_off (i := 13) rfl (by kernel_rfl) (by kernel_rfl) (by kernel_rfl) [] (by kernel_rfl) (fun _ _ _ h => h) rfl rfl rfl rfl (by decide) rfl (by decide) (fun _ h => h.upto ⟨rfl, rfl, rfl, rfl, rfl, trivial⟩) ?_
    refine dg_off (i := 14) rfl (by kernel_rfl) (by kernel_rfl) (by kernel_rfl) [] (by kernel_rfl) (fun _ _ _ h => h) rfl rfl rfl rfl (by decide) rfl (by decide) (fun _ h => h.upto ⟨rfl, rfl, rfl, rfl, rfl, trivial⟩) ?_
    refine dg_off (i := 15) rfl (by kernel_rfl) (by kernel_rfl) (by kernel_rfl) [] (by kernel_rfl) (fun _ _ _ h => h) rfl rfl rfl rfl (by decide) rfl (by decide) (fun _ h => h.upto ⟨rfl, rfl, rfl, rfl, rfl, trivial⟩) ?_
    refine dg_off (i := 16) rfl (by kernel_rfl) (by kernel_rfl) (by kernel_rfl) [] (by kernel_rfl) (fun _ _ _ h => h) rfl rfl rfl rfl (by decide) rfl (by decide) (fun _ h => h.upto ⟨rfl, rfl, rfl, rfl, rfl, trivial⟩) ?_
    refine dg_off (i := 17) rfl (by kernel_rfl) (by kernel_rfl) (by kernel_rfl) [] (by kernel_rfl) (fun _ _ _ h => h) rfl rfl rfl rfl (by decide) rfl (by decide) (fun _ h => h.upto ⟨rfl, rfl, rfl, rfl, rfl, trivial⟩) ?_
    refine dg_off (i := 18) rfl (by kernel_rfl) (by kernel_rfl) (by kernel_rfl) [] (by kernel_rfl) (fun _ _ _ h => h) rfl rfl rfl rfl (by decide) rfl (by decide) (fun _ h => h.upto ⟨rfl, rfl, rfl, rfl, rfl, trivial⟩) ?_
    refine dg_off (i := 19) rfl (by kernel_rfl) (by kernel_rfl) (by kernel_rfl) [] (by kernel_rfl) (fun _ _ _ h => h) rfl rfl rfl rfl (by decide) rfl (by decide) (fun _ h => h.upto ⟨rfl, rfl, rfl, rfl, rfl, trivial⟩) ?_
    refine dg_off (i := 20) rfl (by kernel_rfl) (by kernel_rfl) (by kernel_rfl) [] (by kernel_rfl) (fun _ _ _ h => h) rfl rfl rfl rfl (by decide) rfl (by decide) (fun _ h => h.upto ⟨rfl, rfl, rfl, rfl, rfl, trivial⟩) ?_
    refine dg_off (i := 21) rfl (by kernel_rfl) (by kernel_rfl) (by kernel_rfl) [] (by kernel_rfl) (fun _ _ _ h => h) rfl rfl rfl rfl (by decide) rfl (by decide) (fun _ h => h.upto ⟨rfl, rfl, rfl, rfl, rfl, trivial⟩) ?_
    refine dg_off (i := 22) rfl (by kernel_rfl) (by kernel_rfl) (by kernel_rfl) [] (by kernel_rfl) (fun _ _ _ h => h) rfl rfl rfl rfl (by decide) rfl (by decide) (fun _ h => h.upto ⟨rfl, rfl, rfl, rfl, rfl, trivial⟩) ?_
    refine dg_off (i := 23) rfl (by kernel_rfl) (by kernel_rfl) (by kernel_rfl) [] (by kernel_rfl) (fun _ _ _ h => h) rfl rfl rfl rfl (by decide) rfl (by decide) (fun _ h => h.upto ⟨rfl, rfl, rfl, rfl, rfl, trivial⟩) ?_
    refine dg_off (i := 24) rfl (by kernel_rfl) (by kernel_rfl) (by kernel_rfl) [] (by kernel_rfl) (fun _ _ _ h => h) rfl rfl rfl rfl (by decide) rfl (by decide) (fun _ h => h.upto ⟨rfl, rfl, rfl, rfl, rfl, trivial⟩) ?_
    refine dg_q (i := 25) rfl (by kernel_rfl) (by kernel_rfl) (by kernel_rfl) [] (by kernel_rfl) (fun _ _ _ h => h) rfl rfl (by decide) (fun _ h => h.upto ⟨rfl, rfl, rfl, rfl, rfl, trivial⟩) (qt_pickF rfl rfl rfl) ?_
    refine dg_done (by kernel_rfl) ?_
    refine norm_then ?_
    exact at_meet hC_cut_3 ⟨vb (by simp [strictM, *] <;> omega), rfl, trivial⟩ (fun _ h => h.upto ⟨rfl, rfl, rfl, rfl, rfl, trivial⟩)
  ·refine at_envE (by simp only [ya,yb]; rfl) ?_
   refine at_cond rfl (fun c2 => ?_) (fun c2 => ?_)
   ·try simp only [za,zb,zc,zd,ze,zf,Bool.not_true,Bool.not_false,zg,zh,ne_eq,zi,zj] at c2
    refine at_seq ?_
    refine at_region ?_
    refine at_q rfl rfl (by decide) (qt_assign rfl rfl) ?_
    refine at_end ?_
    refine at_retc ?_
    refine then_ret ?_
    refine pass_ret ?_
    refine then_ret ?_
    refine at_ret1 rfl (.tmp rfl) ?_
    intro w' hs
    exact ⟨retI (by rw [hl.1 (by omega), if_pos (by assumption)]), hs.fin⟩
   ·try simp only [za,zb,zc,zd,ze,zf,Bool.not_true,Bool.not_false,zg,zh,ne_eq,zi,zj] at c2
    refine at_skip ?_
    refine norm_then ?_
    refine at_seq ?_
    refine at_region ?_
    refine at_q rfl rfl (by decide) (qt_assign rfl rfl) ?_
    refine at_end ?_
    refine at_retc ?_
    refine pass_ret ?_
    refine then_ret ?_
    refine at_ret1 rfl (.tmp rfl) ?_
    intro w' hs
    exact ⟨retI (by rw [hl.1 (by omega), if_neg (by simp [*])]), hs.fin⟩
 ·try simp only [za,zb,zc,zd,ze,zf,Bool.not_true,Bool.not_false,zg,zh,ne_eq,zi,zj] at c1
  refine at_seq ?_
  refine at_region ?_
  refine at_q rfl rfl (by decide) (qt_eql rfl rfl rfl) ?_
  refine at_q rfl rfl (by decide) (qt_assign rfl rfl) ?_
  refine at_end ?_
  refine at_cond rfl (fun c3 => ?_) (fun c3 => ?_)
  ·try simp only [za,zb,zc,zd,ze,zf,Bool.not_true,Bool.not_false,zg,zh,ne_eq,zi,zj] at c3
   refine at_seq ?_
   refine at_region ?_
   refine at_q rfl rfl (by decide) (qt_assign rfl rfl) ?_
   refine at_end ?_
   refine at_retc ?_
   refine pass_ret ?_
   refine then_ret ?_
   refine at_ret1 rfl (.tmp rfl) ?_
   intro w' hs
   exact ⟨retI (by rw [hl.2.1 (by omega)]), hs.fin⟩
  ·try simp only [za,zb,zc,zd,ze,zf,Bool.not_true,Bool.not_false,zg,zh,ne_eq,zi,zj] at c3
   refine at_skip ?_
   refine norm_block ?_
   refine norm_then ?_
   refine at_seq ?_
   refine at_region ?_
   refine at_q rfl rfl (by decide) (qt_assign rfl rfl) ?_
   refine at_end ?_
   refine at_retc ?_
   refine at_ret1 rfl (.tmp rfl) ?_
   intro w' hs
   exact ⟨retI (by rw [hl.2.2 (by omega) (by omega)]), hs.fin⟩

section
variable {w : World} {Rs : List Res}
/-- The four cells of an edge that came in. -/
theorem rdL4 {b o : Nat} {l : Leg} (h : ∀ q v, (legCells l)[q]? = some v → w.cell? ⟨b, o + q, none⟩ = some v) (hb : b < w.heap.size) :
  (∀ w', St ⟨w, []⟩ Rs w' → w'.cell? ⟨b, o + 0 + 0, none⟩ = some (.int .i64 l.ax)) ∧ (∀ w', St ⟨w, []⟩ Rs w' → w'.cell? ⟨b, o + 0 + 1, none⟩ = some (.int .i64 l.ay)) ∧
  (∀ w', St ⟨w, []⟩ Rs w' → w'.cell? ⟨b, o + 2 + 0, none⟩ = some (.int .i64 l.bx)) ∧ (∀ w', St ⟨w, []⟩ Rs w' → w'.cell? ⟨b, o + 2 + 1, none⟩ = some (.int .i64 l.b_y)) :=
 ⟨rdOld (h 0 _ rfl) hb, rdOld (h 1 _ rfl) hb, rdOld (h 2 _ rfl) hb, rdOld (h 3 _ rfl) hb⟩
end
theorem l13Apart_any (b1_ o1 b2_ o2 : Nat) (e f : Leg) (w : World) (h1 : ∀ q v, (legCells e)[q]? = some v → w.cell? ⟨b1_, o1 + q, none⟩ = some v) (h2 : ∀ q v, (legCells f)[q]? = some v → w.cell? ⟨b2_, o2 + q, none⟩ = some v) (hb1 : b1_ < w.heap.size) (hb2 : b2_ < w.heap.size) :
  Calls Try.prog 30 #[.pointer (some ⟨b1_, o1, none⟩), .pointer (some ⟨b2_, o2, none⟩)] w fun r w' => r = .returned (.bool (apartM (lA e) (lB e) (lA f) (lB f))) ∧ Over w w' := by
 refine walk_from (m := 103) (Try.func30) rfl rfl (Nat.le_of_ble_eq_true rfl) ?_
 refine at_seq ?_
 refine at_region ?_
 refine at_q rfl rfl (by decide) (qt_assign rfl rfl) ?_
 refine at_end ?_
 refine at_seq ?_
 refine lx_start mixed (by kernel_rfl) (fun _ _ d _ _ h => by cases d <;> exact h) ?_
 refine lx_q rfl rfl (by decide) (qt_move rfl rfl) ?_
 refine lx_q rfl rfl (by decide) (qt_nilCheck rfl rfl) ?_
 refine lx_q rfl rfl (by decide) (qt_fieldAddr rfl rfl tyf_spec_l13Edge_0) ?_
 refine lx_q rfl rfl (by decide) (qt_fieldAddr rfl rfl tyf_impl_Pt_0) ?_
 refine lx_q rfl rfl (by decide) (qt_load1 rfl rfl ty1_int64 (by first | exact (rdL4 h1 hb1).1 | exact (rdL4 h1 hb1).2.1 | exact (rdL4 h1 hb1).2.2.1 | exact (rdL4 h1 hb1).2.2.2 | exact (rdL4 h2 hb2).1 | exact (rdL4 h2 hb2).2.1 | exact (rdL4 h2 hb2).2.2.1 | exact (rdL4 h2 hb2).2.2.2)) ?_
 refine lx_q rfl rfl (by decide) (qt_move rfl rfl) ?_
 refine lx_q rfl rfl (by decide) (qt_nilCheck rfl rfl) ?_
 refine lx_q rfl rfl (by decide) (qt_fieldAddr rfl rfl tyf_spec_l13Edge_1) ?_
 refine lx_q rfl rfl (by decide) (qt_fieldAddr rfl rfl tyf_impl_Pt_0) ?_
 refine lx_q rfl rfl (by decide) (qt_load1 rfl rfl ty1_int64 (by first | exact (rdL4 h1 hb1).1 | exact (rdL4 h1 hb1).2.1 | exact (rdL4 h1 hb1).2.2.1 | exact (rdL4 h1 hb1).2.2.2 | exact (rdL4 h2 hb2).1 | exact (rdL4 h2 hb2).2.1 | exact (rdL4 h2 hb2).2.2.1 | exact (rdL4 h2 hb2).2.2.2)) ?_
 refine lx_q rfl rfl (by decide) (qt_call ok_spec_l00Max rfl rfl (fun w h => Calls.still (l00Max_any _ _ w))) ?_
 refine lx_q rfl rfl (by decide) (qt_move rfl rfl) ?_
 refine lx_q rfl rfl (by decide) (qt_nilCheck rfl rfl) ?_
 refine lx_q rfl rfl (by decide) (qt_fieldAddr rfl rfl tyf_spec_l13Edge_0) ?_
 refine lx_q rfl rfl (by decide) (qt_fieldAddr rfl rfl tyf_impl_Pt_0) ?_
 refine lx_q rfl rfl (by decide) (qt_load1 rfl rfl ty1_int64 (by first | exact (rdL4 h1 hb1).1 | exact (rdL4 h1 hb1).2.1 | exact (rdL4 h1 hb1).2.2.1 | exact (rdL4 h1 hb1).2.2.2 | exact (rdL4 h2 hb2).1 | exact (rdL4 h2 hb2).2.1 | exact (rdL4 h2 hb2).2.2.1 | exact (rdL4 h2 hb2).2.2.2)) ?_
 refine lx_q rfl rfl (by decide) (qt_move rfl rfl) ?_
 refine lx_q rfl rfl (by decide) (qt_nilCheck rfl rfl) ?_
 refine lx_q rfl rfl (by decide) (qt_fieldAddr rfl rfl tyf_spec_l13Edge_1) ?_
 refine lx_q rfl rfl (by decide) (qt_fieldAddr rfl rfl tyf_impl_Pt_0) ?_
 refine lx_q rfl rfl (by decide) (qt_load1 rfl rfl ty1_int64 (by first | exact (rdL4 h1 hb1).1 | exact (rdL4 h1 hb1).2.1 | exact (rdL4 h1 hb1).2.2.1 | exact (rdL4 h1 hb1).2.2.2 | exact (rdL4 h2 hb2).1 | exact (rdL4 h2 hb2).2.1 | exact (rdL4 h2 hb2).2.2.1 | exact (rdL4 h2 hb2).2.2.2)) ?_
 refine lx_q rfl rfl (by decide) (qt_call ok_spec_l00Min rfl rfl (fun w h => Calls.still (l00Min_any _ _ w))) ?_
 refine lx_q rfl rfl (by decide) (qt_lss rfl rfl rfl) ?_
 refine lx_q rfl rfl (by decide) (qt_move rfl rfl) ?_
 refine lx_bsplit 28 rfl (fun g1 => ?_) (fun g1 => ?_)
 ·try simp only [za,zb,zc,zd,ze,zf,Bool.not_true,Bool.not_false,zg,zh,ne_eq,zi,zj] at g1
  refine lx_off rfl rfl rfl rfl (by decide) rfl (by decide) ?_
  refine lx_off rfl rfl rfl rfl (by decide) rfl (by decide) ?_
  refine lx_off rfl rfl rfl rfl (by decide) rfl (by decide) ?_
  refine lx_off rfl rfl rfl rfl (by decide) rfl (by decide) ?_
  refine lx_off rfl rfl rfl rfl (by decide) rfl (by decide) ?_
  refine lx_off rfl rfl rfl rfl (by decide) rfl (by decide) ?_
  refine lx_off rfl rfl rfl rfl (by decide) rfl (by decide) ?_
  refine lx_off rfl rfl rfl rfl (by decide) rfl (by decide) ?_
  refine lx_off rfl rfl rfl rfl (by decide) rfl (by decide) ?_
  refine lx_off rfl rfl rfl rfl (by decide) rfl (by decide) ?_
  refine lx_off rfl rfl rfl rfl (by decide) rfl (by decide) ?_
  refine lx_off rfl rfl rfl rfl (by decide) rfl (by decide) ?_
  refine lx_off rfl rfl rfl rfl (by decide) rfl (by decide) ?_
  refine lx_off rfl rfl rfl rfl (by decide) rfl (by decide) ?_
  refine lx_off rfl rfl rfl rfl (by decide) rfl (by decide) ?_
  refine lx_off rfl rfl rfl rfl (by decide) rfl (by decide) ?_
  refine lx_off rfl rfl rfl rfl (by decide) rfl (by decide) ?_
  refine lx_off rfl rfl rfl rfl (by decide) rfl (by decide) ?_
  refine lx_off rfl rfl rfl rfl (by decide) rfl (by decide) ?_
  refine lx_off rfl rfl rfl rfl (by decide) rfl (by decide) ?_
  refine lx_off rfl rfl rfl rfl (by decide) rfl (by decide) ?_
  refine lx_off rfl rfl rfl rfl (by decide) rfl (by decide) ?_
  refine lx_off rfl rfl rfl rfl (by decide) rfl (by decide) ?_
  refine lx_q rfl rfl (by decide) (qt_pickT rfl rfl rfl) ?_
  refine lx_q rfl rfl (by decide) (qt_move rfl rfl) ?_
  refine lx_off rfl rfl rfl rfl (by decide) rfl (by decide) ?_
  refine lx_off rfl rfl rfl rfl (by decide) rfl (by decide) ?_
  refine lx_off rfl rfl rfl rfl (by decide) rfl (by decide) ?_
  refine lx_off rfl rfl rfl rfl (by decide) rfl (by decide) ?_
  refine lx_off rfl rfl rfl rfl (by decide) rfl (by decide) ?_
  refine lx_off rfl rfl rfl rfl (by decide) rfl (by decide) ?_
  refine lx_off rfl rfl rfl rfl (by decide) rfl (by decide) ?_
  refine lx_off rfl rfl rfl rfl (by decide) rfl (by decide) ?_
  refine lx_off rfl rfl rfl rfl (by decide) rfl (by decide) ?_
  refine lx_off rfl rfl rfl rfl (by decide) rfl (by decide) ?_
  refine lx_off rfl rfl rfl rfl (by decide) rfl (by decide) ?_
  refine lx_off rfl rfl rfl rfl (by decide) rfl (by decide) ?_
  refine lx_off rfl rfl rfl rfl (by decide) rfl (by decide) ?_
  refine lx_off rfl rfl rfl rfl (by decide) rfl (by decide) ?_
  refine lx_off rfl rfl rfl rfl (by decide) rfl (by decide) ?_
  refine lx_off rfl rfl rfl rfl (by decide) rfl (by decide) ?_
  refine lx_off rfl rfl rfl rfl (by decide) rfl (by decide) ?_
  refine lx_off rfl rfl rfl rfl (by decide) rfl (by decide) ?_
  refine lx_off rfl rfl rfl rfl (by decide) rfl (by decide) ?_
  refine lx_off rfl rfl rfl rfl (by decide) rfl (by decide) ?_
  refine lx_off rfl rfl rfl rfl (by decide) rfl (by decide) ?_
  refine lx_off rfl rfl rfl rfl (by decide) rfl (by decide) ?_
  refine lx_off rfl rfl rfl rfl (by decide) rfl (by decide) ?_
  refine lx_q rfl rfl (by decide) (qt_pickT rfl rfl rfl) ?_
  refine lx_q rfl rfl (by decide) (qt_move rfl rfl) ?_
  refine lx_off rfl rfl rfl rfl (by decide) rfl (by decide) ?_
  refine lx_off rfl rfl rfl rfl (by decide) rfl (by decide) ?_
  refine lx_off rfl rfl rfl rfl (by decide) rfl (by decide) ?_
  refine lx_off rfl rfl rfl rfl (by decide) rfl (by decide) ?_
  refine lx_off rfl rfl rfl rfl (by decide) rfl (by decide) ?_
  refine lx_off rfl rfl rfl rfl (by decide) rfl (by decide) ?_
  refine lx_off rfl rfl rfl rfl (by decide) rfl (by decide) ?_
  refine lx_off rfl rfl rfl rfl (by decide) rfl (by decide) ?_
  refine lx_off rfl rfl rfl rfl (by decide) rfl (by decide) ?_
  refine lx_off rfl rfl rfl rfl (by decide) rfl (by decide) ?_
  refine lx_off rfl rfl rfl rfl (by decide) rfl (by decide) ?_
  refine lx_off rfl rfl rfl rfl (by decide) rfl (by decide) ?_
  refine lx_off rfl rfl rfl rfl (by decide) rfl (by decide) ?_
  refine lx_off rfl rfl rfl rfl (by decide) rfl (by decide) ?_
  refine lx_off rfl rfl rfl rfl (by decide) rfl (by decide) ?_
  refine lx_off rfl rfl rfl rfl (by decide) rfl (by decide) ?_
  refine lx_off rfl rfl rfl rfl (by decide) rfl (by decide) ?_
  refine lx_off rfl rfl rfl rfl (by decide) rfl (by decide) ?_
  refine lx_off rfl rfl rfl rfl (by decide) rfl (by decide) ?_
  refine lx_off rfl rfl rfl rfl (by decide) rfl (by decide) ?_
  refine lx_off rfl rfl rfl rfl (by decide) rfl (by decide) ?_
  refine lx_off rfl rfl rfl rfl (by decide) rfl (by decide) ?_
  refine lx_off rfl rfl rfl rfl (by decide) rfl (by decide) ?_
  refine lx_q rfl rfl (by decide) (qt_pickT rfl rfl rfl) ?_
  refine lx_q rfl rfl (by decide) (qt_assign rfl rfl) ?_
  refine lx_end ?_
  refine norm_then ?_
  refine at_retc ?_
  refine at_ret1 rfl (.tmp rfl) ?_
  intro w' hs
  exact ⟨retB (by rw [Bool.eq_iff_iff]; simp only [apartM, Bool.or_eq_true, decide_eq_true_eq, true_iff]; simp only [lA, lB]; omega), hs.fin⟩
 ·try simp only [za,zb,zc,zd,ze,zf,Bool.not_true,Bool.not_false,zg,zh,ne_eq,zi,zj] at g1
  refine lx_qg rfl rfl rfl rfl rfl (by decide) (qt_move rfl rfl) ?_
  refine lx_qg rfl rfl rfl rfl rfl (by decide) (qt_nilCheck rfl rfl) ?_
  refine lx_qg rfl rfl rfl rfl rfl (by decide) (qt_fieldAddr rfl rfl tyf_spec_l13Edge_0) ?_
  refine lx_qg rfl rfl rfl rfl rfl (by decide) (qt_fieldAddr rfl rfl tyf_impl_Pt_0) ?_
  refine lx_qg rfl rfl rfl rfl rfl (by decide) (qt_load1 rfl rfl ty1_int64 (by first | exact (rdL4 h1 hb1).1 | exact (rdL4 h1 hb1).2.1 | exact (rdL4 h1 hb1).2.2.1 | exact (rdL4 h1 hb1).2.2.2 | exact (rdL4 h2 hb2).1 | exact (rdL4 h2 hb2).2.1 | exact (rdL4 h2 hb2).2.2.1 | exact (rdL4 h2 hb2).2.2.2)) ?_
  refine lx_qg rfl rfl rfl rfl rfl (by decide) (qt_move rfl rfl) ?_
  refine lx_qg rfl rfl rfl rfl rfl (by decide) (qt_nilCheck rfl rfl) ?_
  refine lx_qg rfl rfl rfl rfl rfl (by decide) (qt_fieldAddr rfl rfl tyf_spec_l13Edge_1) ?_
  refine lx_qg rfl rfl rfl rfl rfl (by decide) (qt_fieldAddr rfl rfl tyf_impl_Pt_0) ?_
  refine lx_qg rfl rfl rfl rfl rfl (by decide) (qt_load1 rfl rfl ty1_int64 (by first | exact (rdL4 h1 hb1).1 | exact (rdL4 h1 hb1).2.1 | exact (rdL4 h1 hb1).2.2.1 | exact (rdL4 h1 hb1).2.2.2 | exact (rdL4 h2 hb2).1 | exact (rdL4 h2 hb2).2.1 | exact (rdL4 h2 hb2).2.2.1 | exact (rdL4 h2 hb2).2.2.2)) ?_
  refine lx_qg rfl rfl rfl rfl rfl (by decide) (qt_call ok_spec_l00Max rfl rfl (fun w h => Calls.still (l00Max_any _ _ w))) ?_
  refine lx_qg rfl rfl rfl rfl rfl (by decide) (qt_move rfl rfl) ?_
  refine lx_qg rfl rfl rfl rfl rfl (by decide) (qt_nilCheck rfl rfl) ?_
  refine lx_qg rfl rfl rfl rfl rfl (by decide) (qt_fieldAddr rfl rfl tyf_spec_l13Edge_0) ?_
  refine lx_qg rfl rfl rfl rfl rfl (by decide) (qt_fieldAddr rfl rfl tyf_impl_Pt_0) ?_
  refine lx_qg rfl rfl rfl rfl rfl (by decide) (qt_load1 rfl rfl ty1_int64 (by first | exact (rdL4 h1 hb1).1 | exact (rdL4 h1 hb1).2.1 | exact (rdL4 h1 hb1).2.2.1 | exact (rdL4 h1 hb1).2.2.2 | exact (rdL4 h2 hb2).1 | exact (rdL4 h2 hb2).2.1 | exact (rdL4 h2 hb2).2.2.1 | exact (rdL4 h2 hb2).2.2.2)) ?_
  refine lx_qg rfl rfl rfl rfl rfl (by decide) (qt_move rfl rfl) ?_
  refine lx_qg rfl rfl rfl rfl rfl (by decide) (qt_nilCheck rfl rfl) ?_
  refine lx_qg rfl rfl rfl rfl rfl (by decide) (qt_fieldAddr rfl rfl tyf_spec_l13Edge_1) ?_
  refine lx_qg rfl rfl rfl rfl rfl (by decide) (qt_fieldAddr rfl rfl tyf_impl_Pt_0) ?_
  refine lx_qg rfl rfl rfl rfl rfl (by decide) (qt_load1 rfl rfl ty1_int64 (by first | exact (rdL4 h1 hb1).1 | exact (rdL4 h1 hb1).2.1 | exact (rdL4 h1 hb1).2.2.1 | exact (rdL4 h1 hb1).2.2.2 | exact (rdL4 h2 hb2).1 | exact (rdL4 h2 hb2).2.1 | exact (rdL4 h2 hb2).2.2.1 | exact (rdL4 h2 hb2).2.2.2)) ?_
  refine lx_qg rfl rfl rfl rfl rfl (by decide) (qt_call ok_spec_l00Min rfl rfl (fun w h => Calls.still (l00Min_any _ _ w))) ?_
  refine lx_qg rfl rfl rfl rfl rfl (by decide) (qt_lss rfl rfl rfl) ?_
  refine lx_q rfl rfl (by decide) (qt_pickF rfl rfl rfl) ?_
  refine lx_q rfl rfl (by decide) (qt_move rfl rfl) ?_
  refine lx_bsplit 53 rfl (fun g2 => ?_) (fun g2 => ?_)
  ·try simp only [za,zb,zc,zd,ze,zf,Bool.not_true,Bool.not_false,zg,zh,ne_eq,zi,zj] at g2
   refine lx_off rfl rfl rfl rfl (by decide) rfl (by decide) ?_
   refine lx_off rfl rfl rfl rfl (by decide) rfl (by decide) ?_
   refine lx_off rfl rfl rfl rfl (by decide) rfl (by decide) ?_
   refine lx_off rfl rfl rfl rfl (by decide) rfl (by decide) ?_
   refine lx_off rfl rfl rfl rfl (by decide) rfl (by decide) ?_
   refine lx_off rfl rfl rfl rfl (by decide) rfl (by decide) ?_
   refine lx_off rfl rfl rfl rfl (by decide) rfl (by decide) ?_
   refine lx_off rfl rfl rfl rfl (by decide) rfl (by decide) ?_
   refine lx_off rfl rfl rfl rfl (by decide) rfl (by decide) ?_
   refine lx_off rfl rfl rfl rfl (by decide) rfl (by decide) ?_
   refine lx_off rfl rfl rfl rfl (by decide) rfl (by decide) ?_
   refine lx_off rfl rfl rfl rfl (by decide) rfl (by decide) ?_
   refine lx_off rfl rfl rfl rfl (by decide) rfl (by decide) ?_
   refine lx_off rfl rfl rfl rfl (by decide) rfl (by decide) ?_
   refine lx_off rfl rfl rfl rfl (by decide) rfl (by decide) ?_
   refine lx_off rfl rfl rfl rfl (by decide) rfl (by decide) ?_
   refine lx_off rfl rfl rfl rfl (by decide) rfl (by decide) ?_
   refine lx_off rfl rfl rfl rfl (by decide) rfl (by decide) ?_
   refine lx_off rfl rfl rfl rfl (by decide) rfl (by decide) ?_
   refine lx_off rfl rfl rfl rfl (by decide) rfl (by decide) ?_
   refine lx_off rfl rfl rfl rfl (by decide) rfl (by decide) ?_
   refine lx_off rfl rfl rfl rfl (by decide) rfl (by decide) ?_
   refine lx_off rfl rfl rfl rfl (by decide) rfl (by decide) ?_
   refine lx_q rfl rfl (by decide) (qt_pickT rfl rfl rfl) ?_
   refine lx_q rfl rfl (by decide) (qt_move rfl rfl) ?_
   refine lx_off rfl rfl rfl rfl (by decide) rfl (by decide) ?_
   refine lx_off rfl rfl rfl rfl (by decide) rfl (by decide) ?_
   refine lx_off rfl rfl rfl rfl (by decide) rfl (by decide) ?_
   refine lx_off rfl rfl rfl rfl (by decide) rfl (by decide) ?_
   refine lx_off rfl rfl rfl rfl (by decide) rfl (by decide) ?_
   refine lx_off rfl rfl rfl rfl (by decide) rfl (by decide) ?_
   refine lx_off rfl rfl rfl rfl (by decide) rfl (by decide) ?_
   refine lx_off rfl rfl rfl rfl (by decide) rfl (by decide) ?_
   refine lx_off rfl rfl rfl rfl (by decide) rfl (by decide) ?_
   refine lx_off rfl rfl rfl rfl (by decide) rfl (by decide) ?_
   refine lx_off rfl rfl rfl rfl (by decide) rfl (by decide) ?_
   refine lx_off rfl rfl rfl rfl (by decide) rfl (by decide) ?_
   refine lx_off rfl rfl rfl rfl (by decide) rfl (by decide) ?_
   refine lx_off rfl rfl rfl rfl (by decide) rfl (by decide) ?_
   refine lx_off rfl rfl rfl rfl (by decide) rfl (by decide) ?_
   refine lx_off rfl rfl rfl rfl (by decide) rfl (by decide) ?_
   refine lx_off rfl rfl rfl rfl (by decide) rfl (by decide) ?_
   refine lx_off rfl rfl rfl rfl (by decide) rfl (by decide) ?_
   refine lx_off rfl rfl rfl rfl (by decide) rfl (by decide) ?_
   refine lx_off rfl rfl rfl rfl (by decide) rfl (by decide) ?_
   refine lx_off rfl rfl rfl rfl (by decide) rfl (by decide) ?_
   refine lx_off rfl rfl rfl rfl (by decide) rfl (by decide) ?_
   refine lx_off rfl rfl rfl rfl (by decide) rfl (by decide) ?_
   refine lx_q rfl rfl (by decide) (qt_pickT rfl rfl rfl) ?_
   refine lx_q rfl rfl (by decide) (qt_assign rfl rfl) ?_
   refine lx_end ?_
   refine norm_then ?_
   refine at_retc ?_
   refine at_ret1 rfl (.tmp rfl) ?_
   intro w' hs
   exact ⟨retB (by rw [Bool.eq_iff_iff]; simp only [apartM, Bool.or_eq_true, decide_eq_true_eq, true_iff]; simp only [lA, lB]; omega), hs.fin⟩
  ·try simp only [za,zb,zc,zd,ze,zf,Bool.not_true,Bool.not_false,zg,zh,ne_eq,zi,zj] at g2
   refine lx_qg rfl rfl rfl rfl rfl (by decide) (qt_move rfl rfl) ?_
   refine lx_qg rfl rfl rfl rfl rfl (by decide) (qt_nilCheck rfl rfl) ?_
   refine lx_qg rfl rfl rfl rfl rfl (by decide) (qt_fieldAddr rfl rfl tyf_spec_l13Edge_0) ?_
   refine lx_qg rfl rfl rfl rfl rfl (by decide) (qt_fieldAddr rfl rfl tyf_impl_Pt_1) ?_
   refine lx_qg rfl rfl rfl rfl rfl (by decide) (qt_load1 rfl rfl ty1_int64 (by first | exact (rdL4 h1 hb1).1 | exact (rdL4 h1 hb1).2.1 | exact (rdL4 h1 hb1).2.2.1 | exact (rdL4 h1 hb1).2.2.2 | exact (rdL4 h2 hb2).1 | exact (rdL4 h2 hb2).2.1 | exact (rdL4 h2 hb2).2.2.1 | exact (rdL4 h2 hb2).2.2.2)) ?_
   refine lx_qg rfl rfl rfl rfl rfl (by decide) (qt_move rfl rfl) ?_
   refine lx_qg rfl rfl rfl rfl rfl (by decide) (qt_nilCheck rfl rfl) ?_
   refine lx_qg rfl rfl rfl rfl rfl (by decide) (qt_fieldAddr rfl rfl tyf_spec_l13Edge_1) ?_
   refine lx_qg rfl rfl rfl rfl rfl (by decide) (qt_fieldAddr rfl rfl tyf_impl_Pt_1) ?_
   refine lx_qg rfl rfl rfl rfl rfl (by decide) (qt_load1 rfl rfl ty1_int64 (by first | exact (rdL4 h1 hb1).1 | exact (rdL4 h1 hb1).2.1 | exact (rdL4 h1 hb1).2.2.1 | exact (rdL4 h1 hb1).2.2.2 | exact (rdL4 h2 hb2).1 | exact (rdL4 h2 hb2).2.1 | exact (rdL4 h2 hb2).2.2.1 | exact (rdL4 h2 hb2).2.2.2)) ?_
   refine lx_qg rfl rfl rfl rfl rfl (by decide) (qt_call ok_spec_l00Max rfl rfl (fun w h => Calls.still (l00Max_any _ _ w))) ?_
   refine lx_qg rfl rfl rfl rfl rfl (by decide) (qt_move rfl rfl) ?_
   refine lx_qg rfl rfl rfl rfl rfl (by decide) (qt_nilCheck rfl rfl) ?_
   refine lx_qg rfl rfl rfl rfl rfl (by decide) (qt_fieldAddr rfl rfl tyf_spec_l13Edge_0) ?_
   refine lx_qg rfl rfl rfl rfl rfl (by decide) (qt_fieldAddr rfl rfl tyf_impl_Pt_1) ?_
   refine lx_qg rfl rfl rfl rfl rfl (by decide) (qt_load1 rfl rfl ty1_int64 (by first | exact (rdL4 h1 hb1).1 | exact (rdL4 h1 hb1).2.1 | exact (rdL4 h1 hb1).2.2.1 | exact (rdL4 h1 hb1).2.2.2 | exact (rdL4 h2 hb2).1 | exact (rdL4 h2 hb2).2.1 | exact (rdL4 h2 hb2).2.2.1 | exact (rdL4 h2 hb2).2.2.2)) ?_
   refine lx_qg rfl rfl rfl rfl rfl (by decide) (qt_move rfl rfl) ?_
   refine lx_qg rfl rfl rfl rfl rfl (by decide) (qt_nilCheck rfl rfl) ?_
   refine lx_qg rfl rfl rfl rfl rfl (by decide) (qt_fieldAddr rfl rfl tyf_spec_l13Edge_1) ?_
   refine lx_qg rfl rfl rfl rfl rfl (by decide) (qt_fieldAddr rfl rfl tyf_impl_Pt_1) ?_
   refine lx_qg rfl rfl rfl rfl rfl (by decide) (qt_load1 rfl rfl ty1_int64 (by first | exact (rdL4 h1 hb1).1 | exact (rdL4 h1 hb1).2.1 | exact (rdL4 h1 hb1).2.2.1 | exact (rdL4 h1 hb1).2.2.2 | exact (rdL4 h2 hb2).1 | exact (rdL4 h2 hb2).2.1 | exact (rdL4 h2 hb2).2.2.1 | exact (rdL4 h2 hb2).2.2.2)) ?_
   refine lx_qg rfl rfl rfl rfl rfl (by decide) (qt_call ok_spec_l00Min rfl rfl (fun w h => Calls.still (l00Min_any _ _ w))) ?_
   refine lx_qg rfl rfl rfl rfl rfl (by decide) (qt_lss rfl rfl rfl) ?_
   refine lx_q rfl rfl (by decide) (qt_pickF rfl rfl rfl) ?_
   refine lx_q rfl rfl (by decide) (qt_move rfl rfl) ?_
   refine lx_bsplit 78 rfl (fun g3 => ?_) (fun g3 => ?_)
   ·try simp only [za,zb,zc,zd,ze,zf,Bool.not_true,Bool.not_false,zg,zh,ne_eq,zi,zj] at g3
    refine lx_off rfl rfl rfl rfl (by decide) rfl (by decide) ?_
    refine lx_off rfl rfl rfl rfl (by decide) rfl (by decide) ?_
    refine lx_off rfl rfl rfl rfl (by decide) rfl (by decide) ?_
    refine lx_off rfl rfl rfl rfl (by decide) rfl (by decide) ?_
    refine lx_off rfl rfl rfl rfl (by decide) rfl (by decide) ?_
    refine lx_off rfl rfl rfl rfl (by decide) rfl (by decide) ?_
    refine lx_off rfl rfl rfl rfl (by decide) rfl (by decide) ?_
    refine lx_off rfl rfl rfl rfl (by decide) rfl (by decide) ?_
    refine lx_off rfl rfl rfl rfl (by decide) rfl (by decide) ?_
    refine lx_off rfl rfl rfl rfl (by decide) rfl (by decide) ?_
    refine lx_off rfl rfl rfl rfl (by decide) rfl (by decide) ?_
    refine lx_off rfl rfl rfl rfl (by decide) rfl (by decide) ?_
    refine lx_off rfl rfl rfl rfl (by decide) rfl (by decide) ?_
    refine lx_off rfl rfl rfl rfl (by decide) rfl (by decide) ?_
    refine lx_off rfl rfl rfl rfl (by decide) rfl (by decide) ?_
    refine lx_off rfl rfl rfl rfl (by decide) rfl (by decide) ?_
    refine lx_off rfl rfl rfl rfl (by decide) rfl (by decide) ?_
    refine lx_off rfl rfl rfl rfl (by decide) rfl (by decide) ?_
    refine lx_off rfl rfl rfl rfl (by decide) rfl (by decide) ?_
    refine lx_off rfl rfl rfl rfl (by decide) rfl (by decide) ?_
    refine lx_off rfl rfl rfl rfl (by decide) rfl (by decide) ?_
    refine lx_off rfl rfl rfl rfl (by decide) rfl (by decide) ?_
    refine lx_off rfl rfl rfl rfl (by decide) rfl (by decide) ?_
    refine lx_q rfl rfl (by decide) (qt_pickT rfl rfl rfl) ?_
    refine lx_q rfl rfl (by decide) (qt_assign rfl rfl) ?_
    refine lx_end ?_
    refine norm_then ?_
    refine at_retc ?_
    refine at_ret1 rfl (.tmp rfl) ?_
    intro w' hs
    exact ⟨retB (by rw [Bool.eq_iff_iff]; simp only [apartM, Bool.or_eq_true, decide_eq_true_eq, true_iff]; simp only [lA, lB]; omega), hs.fin⟩
   ·try simp only [za,zb,zc,zd,ze,zf,Bool.not_true,Bool.not_false,zg,zh,ne_eq,zi,zj] at g3
    refine lx_qg rfl rfl rfl rfl rfl (by decide) (qt_move rfl rfl) ?_
    refine lx_qg rfl rfl rfl rfl rfl (by decide) (qt_nilCheck rfl rfl) ?_
    refine lx_qg rfl rfl rfl rfl rfl (by decide) (qt_fieldAddr rfl rfl tyf_spec_l13Edge_0) ?_
    refine lx_qg rfl rfl rfl rfl rfl (by decide) (qt_fieldAddr rfl rfl tyf_impl_Pt_1) ?_
    refine lx_qg rfl rfl rfl rfl rfl (by decide) (qt_load1 rfl rfl ty1_int64 (by first | exact (rdL4 h1 hb1).1 | exact (rdL4 h1 hb1).2.1 | exact (rdL4 h1 hb1).2.2.1 | exact (rdL4 h1 hb1).2.2.2 | exact (rdL4 h2 hb2).1 | exact (rdL4 h2 hb2).2.1 | exact (rdL4 h2 hb2).2.2.1 | exact (rdL4 h2 hb2).2.2.2)) ?_
    refine lx_qg rfl rfl rfl rfl rfl (by decide) (qt_move rfl rfl) ?_
    refine lx_qg rfl rfl rfl rfl rfl (by decide) (qt_nilCheck rfl rfl) ?_
    refine lx_qg rfl rfl rfl rfl rfl (by decide) (qt_fieldAddr rfl rfl tyf_spec_l13Edge_1) ?_
    refine lx_qg rfl rfl rfl rfl rfl (by decide) (qt_fieldAddr rfl rfl tyf_impl_Pt_1) ?_
    refine lx_qg rfl rfl rfl rfl rfl (by decide) (qt_load1 rfl rfl ty1_int64 (by first | exact (rdL4 h1 hb1).1 | exact (rdL4 h1 hb1).2.1 | exact (rdL4 h1 hb1).2.2.1 | exact (rdL4 h1 hb1).2.2.2 | exact (rdL4 h2 hb2).1 | exact (rdL4 h2 hb2).2.1 | exact (rdL4 h2 hb2).2.2.1 | exact (rdL4 h2 hb2).2.2.2)) ?_
    refine lx_qg rfl rfl rfl rfl rfl (by decide) (qt_call ok_spec_l00Max rfl rfl (fun w h => Calls.still (l00Max_any _ _ w))) ?_
    refine lx_qg rfl rfl rfl rfl rfl (by decide) (qt_move rfl rfl) ?_
    refine lx_qg rfl rfl rfl rfl rfl (by decide) (qt_nilCheck rfl rfl) ?_
    refine lx_qg rfl rfl rfl rfl rfl (by decide) (qt_fieldAddr rfl rfl tyf_spec_l13Edge_0) ?_
    refine lx_qg rfl rfl rfl rfl rfl (by decide) (qt_fieldAddr rfl rfl tyf_impl_Pt_1) ?_
    refine lx_qg rfl rfl rfl rfl rfl (by decide) (qt_load1 rfl rfl ty1_int64 (by first | exact (rdL4 h1 hb1).1 | exact (rdL4 h1 hb1).2.1 | exact (rdL4 h1 hb1).2.2.1 | exact (rdL4 h1 hb1).2.2.2 | exact (rdL4 h2 hb2).1 | exact (rdL4 h2 hb2).2.1 | exact (rdL4 h2 hb2).2.2.1 | exact (rdL4 h2 hb2).2.2.2)) ?_
    refine lx_qg rfl rfl rfl rfl rfl (by decide) (qt_move rfl rfl) ?_
    refine lx_qg rfl rfl rfl rfl rfl (by decide) (qt_nilCheck rfl rfl) ?_
    refine lx_qg rfl rfl rfl rfl rfl (by decide) (qt_fieldAddr rfl rfl tyf_spec_l13Edge_1) ?_
    refine lx_qg rfl rfl rfl rfl rfl (by decide) (qt_fieldAddr rfl rfl tyf_impl_Pt_1) ?_
    refine lx_qg rfl rfl rfl rfl rfl (by decide) (qt_load1 rfl rfl ty1_int64 (by first | exact (rdL4 h1 hb1).1 | exact (rdL4 h1 hb1).2.1 | exact (rdL4 h1 hb1).2.2.1 | exact (rdL4 h1 hb1).2.2.2 | exact (rdL4 h2 hb2).1 | exact (rdL4 h2 hb2).2.1 | exact (rdL4 h2 hb2).2.2.1 | exact (rdL4 h2 hb2).2.2.2)) ?_
    refine lx_qg rfl rfl rfl rfl rfl (by decide) (qt_call ok_spec_l00Min rfl rfl (fun w h => Calls.still (l00Min_any _ _ w))) ?_
    refine lx_qg rfl rfl rfl rfl rfl (by decide) (qt_lss rfl rfl rfl) ?_
    refine lx_q rfl rfl (by decide) (qt_pickF rfl rfl rfl) ?_
    refine lx_q rfl rfl (by decide) (qt_assign rfl rfl) ?_
    refine lx_end ?_
    refine norm_then ?_
    refine at_retc ?_
    refine at_ret1 rfl (.tmp rfl) ?_
    intro w' hs
    exact ⟨retB (by rw [Bool.eq_iff_iff]; simp only [apartM, Bool.or_eq_true, decide_eq_true_eq, true_iff]; simp only [lA, lB]; omega), hs.fin⟩
def psL (e f : Leg) : Bool := pairS (lA e) (lB e) (lA f) (lB f)
theorem psL_pairL {e f : Leg} (he : legOk e) (hf : legOk f) (ne : lA e ≠ lB e) (nf : lA f ≠ lB f) : psL e f = pairL e f := (pair_same (lA_ok he) (lB_ok he) (lA_ok hf) (lB_ok hf) ne nf).symm
def touchNo (e f : Leg) : Bool := !(e.ax == f.ax && e.ay == f.ay) && !(e.ax == f.bx && e.ay == f.b_y) && !(e.bx == f.ax && e.b_y == f.ay) && !(e.bx == f.bx && e.b_y == f.b_y)
def lapNo (e f : Leg) : Bool := !((e.ax == f.ax && e.ay == f.ay) && (e.bx == f.bx && e.b_y == f.b_y)) && !((e.ax == f.bx && e.ay == f.b_y) && (e.bx == f.ax && e.b_y == f.ay))
theorem ps_apart {e f : Leg} (h : apartM (lA e) (lB e) (lA f) (lB f) = true) : psL e f = true := by rw [psL, pairS, if_pos h]
theorem ps_cross {e f : Leg} (h : apartM (lA e) (lB e) (lA f) (lB f) = false) (m : meetS (lA e) (lB e) (lA f) (lB f) = 2) : psL e f = false := by rw [psL, pairS, if_neg (by rw [h]; simp), if_pos m]
theorem ps_touch {e f : Leg} (h : apartM (lA e) (lB e) (lA f) (lB f) = false) (m : meetS (lA e) (lB e) (lA f) (lB f) = 1) : psL e f = !touchNo e f := by
 rw [psL, pairS, if_neg (by rw [h]; simp), if_neg (by rw [m]; decide), if_pos m]
 congr 1
 rw [Bool.eq_iff_iff]
 simp only [touchNo, Bool.and_eq_true, decide_eq_true_eq, Bool.not_eq_true', Bool.and_eq_false_iff, beq_eq_false_iff_ne, ne_eq]
 simp only [lA, lB, Prod.mk.injEq]
 omega
theorem ps_lap {e f : Leg} (h : apartM (lA e) (lB e) (lA f) (lB f) = false) (m : meetS (lA e) (lB e) (lA f) (lB f) = 3) : psL e f = !lapNo e f := by
 rw [psL, pairS, if_neg (by rw [h]; simp), if_neg (by rw [m]; decide), if_neg (by rw [m]; decide), if_pos m]
 rw [Bool.eq_iff_iff]
 have hb : ∀ P Q : Bool, (!(!P && !Q)) = (P || Q) := by decide
 simp only [lapNo, hb, Bool.or_eq_true, Bool.and_eq_true, decide_eq_true_eq, beq_iff_eq]
 simp only [lA, lB, Prod.mk.injEq]
theorem ps_none {e f : Leg} (h : apartM (lA e) (lB e) (lA f) (lB f) = false) (m2 : ¬ meetS (lA e) (lB e) (lA f) (lB f) = 2) (m1 : ¬ meetS (lA e) (lB e) (lA f) (lB f) = 1) (m3 : ¬ meetS (lA e) (lB e) (lA f) (lB f) = 3) : psL e f = true := by rw [psL, pairS, if_neg (by rw [h]; simp), if_neg m2, if_neg m1, if_neg m3]
theorem lg_ne {ls : List Leg} (h : ∀ l ∈ ls, lA l ≠ lB l) {k : Nat} (hk : k < ls.length) : lA (lg ls k) ≠ lB (lg ls k) := by
 rw [← at_l hk]
 exact h _ (List.getElem_mem hk)
theorem rowLt {w : World} {w0 : Bs} {Rs : List Res} {k B T s n g c : Nat} {xs : List Value} (hk : Rs[k]? = some (rowR B T s n xs (some ⟨g, 0, none⟩, c))) (hs : St w0 Rs w) (_hn : 0 < n) : g < w.heap.size := by
 have h : w.ownsRow B T s (.slice (some ⟨g, 0, none⟩) n c) n xs := (hs.all k _ hk).1
 exact (h.lt g rfl).2
theorem specIsSnapped_any (A : Option Addr) (n c : Nat) (rs : List Ring_) (w : World) (h : Rings w A n rs) (ht : (total rs : Int) ≤ 1048577) :
  Calls Try.prog 15 #[regV A n c] w fun e w' => e = .returned (.bool (isnB rs)) ∧ Over w w' := by
 have hl := h.1
 refine walk_from (m := 140) (Try.func15) rfl rfl (Nat.le_of_ble_eq_true rfl) ?_
 refine at_seq ?_
 refine at_region ?_
 refine at_op rfl ?_
 refine op_box rfl rfl (rfl) rfl (by decide) (fun b1 => ?_)
 refine at_rsE (by simp only [ya,yb,yc,yd,Value.cells,ye]; rfl) ?_
 refine at_q rfl rfl (by decide) (qt_assign rfl rfl) ?_
 refine at_end ?_
 refine at_seq ?_
 refine at_seq ?_
 refine at_region ?_
 refine at_q rfl rfl (by decide) (qt_call ok_spec_l13Ok rfl rfl (fun w1 hs => l13Ok_any _ _ A n c rs w1 (rd1 (k := 0) rfl rfl w1 hs) (lt_of_some (hs.cel (k := 0) rfl)) (h.over hs.fin) ht)) ?_
 refine at_q rfl rfl (by decide) (qt_not rfl rfl) ?_
 refine at_end ?_
 refine at_cond rfl (fun c1 => ?_) (fun c1 => ?_)
 ·try simp only [za,zb,zc,zd,ze,zf,Bool.not_true,Bool.not_false,zg,zh,ne_eq,zi,zj] at c1
  refine at_seq ?_
  refine at_region ?_
  refine at_q rfl rfl (by decide) (qt_assign rfl rfl) ?_
  refine at_end ?_
  refine at_retc ?_
  refine then_ret ?_
  refine at_ret1 rfl (.tmp rfl) ?_
  intro w' hs
  exact ⟨by simp [isnB, c1], hs.fin⟩
 ·try simp only [za,zb,zc,zd,ze,zf,Bool.not_true,Bool.not_false,zg,zh,ne_eq,zi,zj] at c1
  have hr : regionB rs = true := by simpa using c1
  have hok := regOk hr
  have hne := allTo_ne rs rs.length
  have hal := allLen hr
  have eB : isnB rs = snapAll (edgesAll rs) := by rw [isnB, hr]; rfl
  change ∀ l ∈ edgesAll rs, lA l ≠ lB l at hne
  refine at_skip ?_
  refine norm_then ?_
  refine at_seq ?_
  refine at_region ?_
  refine at_op rfl ?_
  refine op_call ok_spec_l13All (v := fun x => .slice x.1 _ x.2) (r := fun x => rowR 0 51 4 _ _ x) (H := fun _ => True) rfl rfl rfl (by decide) (fun w1 hs => newRow' ((l13All_any _ _ A n c rs w1 (rd1 (k := 0) rfl rfl w1 hs) (lt_of_some (hs.cel (k := 0) rfl)) (h.over hs.fin) ht).mono fun e w' ⟨v, h1, _, h2, h3⟩ => ⟨v, h1, h2, h3⟩)) ?_
  rintro ⟨eA, ec⟩ -
  refine at_rsE (by simp only [ya,yb,yc,yd,Value.cells,ye]; rfl) ?_
  refine at_q rfl rfl (by decide) (qt_assign rfl rfl) ?_
  refine at_end ?_
  refine at_seq ?_
  refine at_seq ?_
  obtain ⟨ls, hls⟩ : ∃ ls, edgesAll rs = ls := ⟨_, rfl⟩
  rw [hls] at hok hal eB hne
  rw [hls]
  refine at_region ?_
  refine at_q rfl rfl (by decide) (qt_assign rfl rfl) ?_
  refine at_end ?_
  refine at_block ?_
  refine at_loopc (X := Nat) (fun i => i ≤ ls.length ∧ ∀ q, q < i → ∀ k, k < q → pairL (lg ls q) (lg ls k) = true) (fun i => ls.length - i) (fun i => [(4, .int .i64 (i : Int))]) (C := [(2, _), (3, _)]) ⟨rfl, rfl, trivial⟩ (fun i => [.cel b1 31 [.slice A n c], rowR 0 51 4 ls.length (ls.flatMap legCells) (eA, ec)]) 0 (⟨Nat.zero_le _, fun q hq => absurd hq (by omega)⟩) ⟨rfl, rfl, rfl, trivial⟩ (fun _ h => h) ?_
  intro i hi L hL1
  refine at_envE (by simp only [ya,yb]; rfl) ?_
  refine at_rsE (by first | (dsimp only; done) | (dsimp only; rfl) | rfl) ?_
  refine at_seq ?_
  refine at_seq ?_
  refine at_region ?_
  refine at_q rfl rfl (by decide) (qt_move rfl rfl) ?_
  refine at_q rfl rfl (by decide) (qt_move rfl rfl) ?_
  refine at_q rfl rfl (by decide) (qt_len rfl rfl tyl_sl_spec_l13Edge) ?_
  refine at_q rfl rfl (by decide) (qt_lss rfl rfl rfl) ?_
  refine at_end ?_
  refine at_cond rfl (fun c2 => ?_) (fun c2 => ?_)
  ·try simp only [za,zb,zc,zd,ze,zf,Bool.not_true,Bool.not_false,zg,zh,ne_eq,zi,zj] at c2
   have hlt : i < ls.length := (by omega)
   refine at_fact (fun w hs => rowSome (k := 1) rfl hs (by omega)) ?_
   rintro ⟨eg, rfl⟩
   refine at_skip ?_
   refine norm_then ?_
   refine at_seq ?_
   refine at_block ?_
   refine at_seq ?_
   refine at_region ?_
   refine at_q rfl rfl (by decide) (qt_assign rfl rfl) ?_
   refine at_end ?_
   refine at_block ?_
   refine at_loopc (X := Nat) (fun k => k ≤ i ∧ ∀ q, q < k → pairL (lg ls i) (lg ls q) = true) (fun k => i - k) (fun k => [(5, .int .i64 (k : Int))]) (C := [(2, _), (3, _), (4, _), (11, _), (12, _), (13, _), (14, _)]) ⟨rfl, rfl, rfl, rfl, rfl, rfl, rfl, trivial⟩ (fun k => [.cel b1 31 [.slice A n c], rowR 0 51 4 ls.length (ls.flatMap legCells) (some ⟨eg, 0, none⟩, ec)]) 0 (⟨Nat.zero_le _, fun q hq => absurd hq (by omega)⟩) ⟨rfl, rfl, rfl, rfl, rfl, rfl, rfl, rfl, trivial⟩ (fun _ h => h) ?_
   intro k hk L hL2
   refine at_envE (by simp only [ya,yb]; rfl) ?_
   refine at_rsE (by first | (dsimp only; done) | (dsimp only; rfl) | rfl) ?_
   refine at_seq ?_
   refine at_seq ?_
   refine at_region ?_
   refine at_q rfl rfl (by decide) (qt_move rfl rfl) ?_
   refine at_q rfl rfl (by decide) (qt_move rfl rfl) ?_
   refine at_q rfl rfl (by decide) (qt_lss rfl rfl rfl) ?_
   refine at_end ?_
   refine at_cond rfl (fun c3 => ?_) (fun c3 => ?_)
   ·try simp only [za,zb,zc,zd,ze,zf,Bool.not_true,Bool.not_false,zg,zh,ne_eq,zi,zj] at c3
    have hkt : k < i := (by omega)
    have hkl : k < ls.length := (by omega)
    have epl := psL_pairL (lg_ok hok hlt) (lg_ok hok hkl) (lg_ne hne hlt) (lg_ne hne hkl)
    refine at_skip ?_
    refine norm_then ?_
    refine at_seq ?_
    refine at_block ?_
    refine at_seq ?_
    refine at_region ?_
    refine at_q rfl rfl (by decide) (qt_move rfl rfl) ?_
    refine at_q rfl rfl (by decide) (qt_move rfl rfl) ?_
    refine at_q rfl rfl (by decide) (qt_index rfl rfl rfl tyl_sl_spec_l13Edge (by omega)) ?_
    refine at_q rfl rfl (by decide) (qt_assign rfl rfl) ?_
    refine at_end ?_
    refine at_seq ?_
    refine at_region ?_
    refine at_q rfl rfl (by decide) (qt_move rfl rfl) ?_
    refine at_q rfl rfl (by decide) (qt_move rfl rfl) ?_
    refine at_q rfl rfl (by decide) (qt_index rfl rfl rfl tyl_sl_spec_l13Edge (by omega)) ?_
    refine at_q rfl rfl (by decide) (qt_assign rfl rfl) ?_
    refine at_end ?_
    refine at_seq ?_
    refine at_seq ?_
    refine at_region ?_
    refine at_q rfl rfl (by decide) (qt_move rfl rfl) ?_
    refine at_q rfl rfl (by decide) (qt_move rfl rfl) ?_
    refine at_q rfl rfl (by decide) (qt_call ok_spec_l13Apart rfl rfl (fun w1 hs => l13Apart_any eg _ eg _ (lg ls i) (lg ls k) w1 (rdLeg (fun w' hs => rowLegs (k := 1) rfl rfl w' hs) hlt w1 hs) (rdLeg (fun w' hs => rowLegs (k := 1) rfl rfl w' hs) hkl w1 hs) (rowLt (k := 1) rfl hs (by omega)) (rowLt (k := 1) rfl hs (by omega)))) ?_
    refine at_end ?_
    refine at_cond rfl (fun c4 => ?_) (fun c4 => ?_)
    ·try simp only [za,zb,zc,zd,ze,zf,Bool.not_true,Bool.not_false,zg,zh,ne_eq,zi,zj] at c4
     refine at_exit ?_
     refine pass_then (fun h => by cases h) ?_
     refine pass_hit ?_
     refine norm_then ?_
     refine at_region ?_
     refine at_q rfl rfl (by decide) (qt_move rfl rfl) ?_
     refine at_q rfl rfl (by decide) (qt_add rfl rfl rfl (by omega) (by omega)) ?_
     refine at_q rfl rfl (by decide) (qt_assign rfl rfl) ?_
     refine at_end ?_
     exact at_againc hL2 (k + 1) (⟨by omega, lt_succ_all hk.2 (by rw [← epl]; exact ps_apart c4)⟩) (by omega) ⟨vi (by omega), rfl, rfl, rfl, rfl, rfl, rfl, rfl, trivial⟩ (fun _ h => h.upto ⟨rfl, rfl, trivial⟩)
    ·try simp only [za,zb,zc,zd,ze,zf,Bool.not_true,Bool.not_false,zg,zh,ne_eq,zi,zj] at c4
     refine at_skip ?_
     refine norm_then ?_
     refine at_seq ?_
     refine dg_start mixed rfl ?_
     refine dg_phase 17 ?_
     refine dg_q (i := 0) rfl (by kernel_rfl) (by kernel_rfl) (by kernel_rfl) [] (by kernel_rfl) (fun _ _ _ h => h) rfl rfl (by decide) (fun _ h => h.upto ⟨rfl, rfl, trivial⟩) (qt_move rfl rfl) ?_
     refine dg_q (i := 1) rfl (by kernel_rfl) (by kernel_rfl) (by kernel_rfl) [] (by kernel_rfl) (fun _ _ _ h => h) rfl rfl (by decide) (fun _ h => h.upto ⟨rfl, rfl, trivial⟩) (qt_nilCheck rfl rfl) ?_
     refine dg_q (i := 2) rfl (by kernel_rfl) (by kernel_rfl) (by kernel_rfl) [] (by kernel_rfl) (fun _ _ _ h => h) rfl rfl (by decide) (fun _ h => h.upto ⟨rfl, rfl, trivial⟩) (qt_fieldAddr rfl rfl tyf_spec_l13Edge_0) ?_
     refine dg_q (i := 3) rfl (by kernel_rfl) (by kernel_rfl) (by kernel_rfl) [] (by kernel_rfl) (fun _ _ _ h => h) rfl rfl (by decide) (fun _ h => h.upto ⟨rfl, rfl, trivial⟩) (qt_loadS rfl rfl tys_impl_Pt rfl (by first | exact rdLegA (b := eg) (o := 0) (j := i) (fun w' hs => rowLegs (k := 1) rfl rfl w' hs) hlt | exact rdLegB (b := eg) (o := 0) (j := i) (fun w' hs => rowLegs (k := 1) rfl rfl w' hs) hlt | exact rdLegA (b := eg) (o := 0) (j := k) (fun w' hs => rowLegs (k := 1) rfl rfl w' hs) hkl | exact rdLegB (b := eg) (o := 0) (j := k) (fun w' hs => rowLegs (k := 1) rfl rfl w' hs) hkl)) ?_
     refine dg_q (i := 4) rfl (by kernel_rfl) (by kernel_rfl) (by kernel_rfl) [] (by kernel_rfl) (fun _ _ _ h => h) rfl rfl (by decide) (fun _ h => h.upto ⟨rfl, rfl, trivial⟩) (qt_move rfl rfl) ?_
     refine dg_q (i := 5) rfl (by kernel_rfl) (by kernel_rfl) (by kernel_rfl) [] (by kernel_rfl) (fun _ _ _ h => h) rfl rfl (by decide) (fun _ h => h.upto ⟨rfl, rfl, trivial⟩) (qt_nilCheck rfl rfl) ?_
     refine dg_q (i := 6) rfl (by kernel_rfl) (by kernel_rfl) (by kernel_rfl) [] (by kernel_rfl) (fun _ _ _ h => h) rfl rfl (by decide) (fun _ h => h.upto ⟨rfl, rfl, trivial⟩) (qt_fieldAddr rfl rfl tyf_spec_l13Edge_1) ?_
     refine dg_q (i := 7) rfl (by kernel_rfl) (by kernel_rfl) (by kernel_rfl) [] (by kernel_rfl) (fun _ _ _ h => h) rfl rfl (by decide) (fun _ h => h.upto ⟨rfl, rfl, trivial⟩) (qt_loadS rfl rfl tys_impl_Pt rfl (by first | exact rdLegA (b := eg) (o := 0) (j := i) (fun w' hs => rowLegs (k := 1) rfl rfl w' hs) hlt | exact rdLegB (b := eg) (o := 0) (j := i) (fun w' hs => rowLegs (k := 1) rfl rfl w' hs) hlt | exact rdLegA (b := eg) (o := 0) (j := k) (fun w' hs => rowLegs (k := 1) rfl rfl w' hs) hkl | exact rdLegB (b := eg) (o := 0) (j := k) (fun w' hs => rowLegs (k := 1) rfl rfl w' hs) hkl)) ?_
     refine dg_q (i := 8) rfl (by kernel_rfl) (by kernel_rfl) (by kernel_rfl) [] (by kernel_rfl) (fun _ _ _ h => h) rfl rfl (by decide) (fun _ h => h.upto ⟨rfl, rfl, trivial⟩) (qt_move rfl rfl) ?_
     refine dg_q (i := 9) rfl (by kernel_rfl) (by kernel_rfl) (by kernel_rfl) [] (by kernel_rfl) (fun _ _ _ h => h) rfl rfl (by decide) (fun _ h => h.upto ⟨rfl, rfl, trivial⟩) (qt_nilCheck rfl rfl) ?_
     refine dg_q (i := 10) rfl (by kernel_rfl) (by kernel_rfl) (by kernel_rfl) [] (by kernel_rfl) (fun _ _ _ h => h) rfl rfl (by decide) (fun _ h => h.upto ⟨rfl, rfl, trivial⟩) (qt_fieldAddr rfl rfl tyf_spec_l13Edge_0) ?_
     refine dg_q (i := 11) rfl (by kernel_rfl) (by kernel_rfl) (by kernel_rfl) [] (by kernel_rfl) (fun _ _ _ h => h) rfl rfl (by decide) (fun _ h => h.upto ⟨rfl, rfl, trivial⟩) (qt_loadS rfl rfl tys_impl_Pt rfl (by first | exact rdLegA (b := eg) (o := 0) (j := i) (fun w' hs => rowLegs (k := 1) rfl rfl w' hs) hlt | exact rdLegB (b := eg) (o := 0) (j := i) (fun w' hs => rowLegs (k := 1) rfl rfl w' hs) hlt | exact rdLegA (b := eg) (o := 0) (j := k) (fun w' hs => rowLegs (k := 1) rfl rfl w' hs) hkl | exact rdLegB (b := eg) (o := 0) (j := k) (fun w' hs => rowLegs (k := 1) rfl rfl w' hs) hkl)) ?_
     refine dg_q (i := 12) rfl (by kernel_rfl) (by kernel_rfl) (by kernel_rfl) [] (by kernel_rfl) (fun _ _ _ h => h) rfl rfl (by decide) (fun _ h => h.upto ⟨rfl, rfl, trivial⟩) (qt_move rfl rfl) ?_
     refine dg_q (i := 13) rfl (by kernel_rfl) (by kernel_rfl) (by kernel_rfl) [] (by kernel_rfl) (fun _ _ _ h => h) rfl rfl (by decide) (fun _ h => h.upto ⟨rfl, rfl, trivial⟩) (qt_nilCheck rfl rfl) ?_
     refine dg_q (i := 14) rfl (by kernel_rfl) (by kernel_rfl) (by kernel_rfl) [] (by kernel_rfl) (fun _ _ _ h => h) rfl rfl (by decide) (fun _ h => h.upto ⟨rfl, rfl, trivial⟩) (qt_fieldAddr rfl rfl tyf_spec_l13Edge_1) ?_
     refine dg_q (i := 15) rfl (by kernel_rfl) (by kernel_rfl) (by kernel_rfl) [] (by kernel_rfl) (fun _ _ _ h => h) rfl rfl (by decide) (fun _ h => h.upto ⟨rfl, rfl, trivial⟩) (qt_loadS rfl rfl tys_impl_Pt rfl (by first | exact rdLegA (b := eg) (o := 0) (j := i) (fun w' hs => rowLegs (k := 1) rfl rfl w' hs) hlt | exact rdLegB (b := eg) (o := 0) (j := i) (fun w' hs => rowLegs (k := 1) rfl rfl w' hs) hlt | exact rdLegA (b := eg) (o := 0) (j := k) (fun w' hs => rowLegs (k := 1) rfl rfl w' hs) hkl | exact rdLegB (b := eg) (o := 0) (j := k) (fun w' hs => rowLegs (k := 1) rfl rfl w' hs) hkl)) ?_
     refine dg_q (i := 16) rfl (by kernel_rfl) (by kernel_rfl) (by kernel_rfl) [] (by kernel_rfl) (fun _ _ _ h => h) rfl rfl (by decide) (fun _ h => h.upto ⟨rfl, rfl, trivial⟩) (qt_call ok_spec_l03Meeting rfl rfl (fun w1 hs => l03Meeting_any (lA (lg ls i)) (lB (lg ls i)) (lA (lg ls k)) (lB (lg ls k)) w1 (lA_ok (lg_ok hok hlt)) (lB_ok (lg_ok hok hlt)) (lA_ok (lg_ok hok hkl)) (lB_ok (lg_ok hok hkl)))) ?_
     refine dg_done (by kernel_rfl) ?_
     refine norm_then ?_
     refine at_block ?_
     refine at_seq ?_
     refine at_region ?_
     refine at_q rfl rfl (by decide) (qt_eql rfl rfl rfl) ?_
     refine at_q rfl rfl (by decide) (qt_assign rfl rfl) ?_
     refine at_end ?_
     refine at_cond rfl (fun c5 => ?_) (fun c5 => ?_)
     ·try simp only [za,zb,zc,zd,ze,zf,Bool.not_true,Bool.not_false,zg,zh,ne_eq,zi,zj] at c5
      refine at_seq ?_
      refine at_region ?_
      refine at_q rfl rfl (by decide) (qt_assign rfl rfl) ?_
      refine at_end ?_
      refine at_retc ?_
      refine pass_ret ?_
      refine pass_ret ?_
      refine then_ret ?_
      refine then_ret ?_
      refine pass_ret ?_
      refine pass_ret ?_
      refine then_ret ?_
      refine then_ret ?_
      refine pass_ret ?_
      refine then_ret ?_
      refine at_ret1 rfl (.tmp rfl) ?_
      intro w' hs
      exact ⟨retB (by rw [eB]; exact snapAll_no hlt hkt (by rw [← epl]; exact ps_cross c4 c5)), hs.fin⟩
     ·try simp only [za,zb,zc,zd,ze,zf,Bool.not_true,Bool.not_false,zg,zh,ne_eq,zi,zj] at c5
      refine at_seq ?_
      refine at_region ?_
      refine at_q rfl rfl (by decide) (qt_eql rfl rfl rfl) ?_
      refine at_q rfl rfl (by decide) (qt_assign rfl rfl) ?_
      refine at_end ?_
      refine at_cond rfl (fun c6 => ?_) (fun c6 => ?_)
      ·try simp only [za,zb,zc,zd,ze,zf,Bool.not_true,Bool.not_false,zg,zh,ne_eq,zi,zj] at c6
       refine at_cutE [(93, .bool (touchNo (lg ls i) (lg ls k)))] (C := [(2, _), (3, _), (4, _), (11, _), (12, _), (13, _), (14, _), (5, _), (17, _), (18, _), (19, _), (22, _), (23, _), (24, _), (6, _), (25, _), (26, _), (27, _), (7, _), (28, _), (29, _), (30, _), (31, _), (32, _), (33, _), (34, _), (35, _), (36, _), (37, _), (38, _), (39, _), (40, _), (41, _), (42, _), (43, _), (44, _), (45, _), (46, _), (47, _), (49, _), (48, _), (51, _), (50, _)])  ⟨rfl, rfl, rfl, rfl, rfl, rfl, rfl, rfl, rfl, rfl, rfl, rfl, rfl, rfl, rfl, rfl, rfl, rfl, rfl, rfl, rfl, rfl, rfl, rfl, rfl, rfl, rfl, rfl, rfl, rfl, rfl, rfl, rfl, rfl, rfl, rfl, rfl, rfl, rfl, rfl, rfl, rfl, rfl, trivial⟩ (fun L hC_cut_17 => ?_) ?_
       ·refine lx_start mixed (by kernel_rfl) (fun _ _ d _ _ h => by cases d <;> exact h) ?_
        refine lx_q rfl rfl (by decide) (qt_move rfl rfl) ?_
        refine lx_q rfl rfl (by decide) (qt_nilCheck rfl rfl) ?_
        refine lx_q rfl rfl (by decide) (qt_fieldAddr rfl rfl tyf_spec_l13Edge_0) ?_
        refine lx_q rfl rfl (by decide) (qt_loadS rfl rfl tys_impl_Pt rfl (by first | exact rdLegA (b := eg) (o := 0) (j := i) (fun w' hs => rowLegs (k := 1) rfl rfl w' hs) hlt | exact rdLegB (b := eg) (o := 0) (j := i) (fun w' hs => rowLegs (k := 1) rfl rfl w' hs) hlt | exact rdLegA (b := eg) (o := 0) (j := k) (fun w' hs => rowLegs (k := 1) rfl rfl w' hs) hkl | exact rdLegB (b := eg) (o := 0) (j := k) (fun w' hs => rowLegs (k := 1) rfl rfl w' hs) hkl)) ?_
        refine lx_q rfl rfl (by decide) (qt_move rfl rfl) ?_
        refine lx_q rfl rfl (by decide) (qt_nilCheck rfl rfl) ?_
        refine lx_q rfl rfl (by decide) (qt_fieldAddr rfl rfl tyf_spec_l13Edge_0) ?_
        refine lx_q rfl rfl (by decide) (qt_loadS rfl rfl tys_impl_Pt rfl (by first | exact rdLegA (b := eg) (o := 0) (j := i) (fun w' hs => rowLegs (k := 1) rfl rfl w' hs) hlt | exact rdLegB (b := eg) (o := 0) (j := i) (fun w' hs => rowLegs (k := 1) rfl rfl w' hs) hlt | exact rdLegA (b := eg) (o := 0) (j := k) (fun w' hs => rowLegs (k := 1) rfl rfl w' hs) hkl | exact rdLegB (b := eg) (o := 0) (j := k) (fun w' hs => rowLegs (k := 1) rfl rfl w' hs) hkl)) ?_
        refine lx_q rfl rfl (by decide) (qt_neqS_impl_Pt rfl rfl rfl) ?_
        refine lx_q rfl rfl (by decide) (qt_move rfl rfl) ?_
        refine lx_bsplit 61 rfl (fun g1 => ?_) (fun g1 => ?_)
        ·try simp only [za,zb,zc,zd,ze,zf,Bool.not_true,Bool.not_false,zg,zh,ne_eq,zi,zj] at g1
         refine lx_qg rfl rfl rfl rfl rfl (by decide) (qt_move rfl rfl) ?_
         refine lx_qg rfl rfl rfl rfl rfl (by decide) (qt_nilCheck rfl rfl) ?_
         refine lx_qg rfl rfl rfl rfl rfl (by decide) (qt_fieldAddr rfl rfl tyf_spec_l13Edge_0) ?_
         refine lx_qg rfl rfl rfl rfl rfl (by decide) (qt_loadS rfl rfl tys_impl_Pt rfl (by first | exact rdLegA (b := eg) (o := 0) (j := i) (fun w' hs => rowLegs (k := 1) rfl rfl w' hs) hlt | exact rdLegB (b := eg) (o := 0) (j := i) (fun w' hs => rowLegs (k := 1) rfl rfl w' hs) hlt | exact rdLegA (b := eg) (o := 0) (j := k) (fun w' hs => rowLegs (k := 1) rfl rfl w' hs) hkl | exact rdLegB (b := eg) (o := 0) (j := k) (fun w' hs => rowLegs (k := 1) rfl rfl w' hs) hkl)) ?_
         refine lx_qg rfl rfl rfl rfl rfl (by decide) (qt_move rfl rfl) ?_
         refine lx_qg rfl rfl rfl rfl rfl (by decide) (qt_nilCheck rfl rfl) ?_
         refine lx_qg rfl rfl rfl rfl rfl (by decide) (qt_fieldAddr rfl rfl tyf_spec_l13Edge_1) ?_
         refine lx_qg rfl rfl rfl rfl rfl (by decide) (qt_loadS rfl rfl tys_impl_Pt rfl (by first | exact rdLegA (b := eg) (o := 0) (j := i) (fun w' hs => rowLegs (k := 1) rfl rfl w' hs) hlt | exact rdLegB (b := eg) (o := 0) (j := i) (fun w' hs => rowLegs (k := 1) rfl rfl w' hs) hlt | exact rdLegA (b := eg) (o := 0) (j := k) (fun w' hs => rowLegs (k := 1) rfl rfl w' hs) hkl | exact rdLegB (b := eg) (o := 0) (j := k) (fun w' hs => rowLegs (k := 1) rfl rfl w' hs) hkl)) ?_
         refine lx_qg rfl rfl rfl rfl rfl (by decide) (qt_neqS_impl_Pt rfl rfl rfl) ?_
         refine lx_q rfl rfl (by decide) (qt_pickT rfl rfl rfl) ?_
         refine lx_q rfl rfl (by decide) (qt_move rfl rfl) ?_
         refine lx_bsplit 72 rfl (fun g2 => ?_) (fun g2 => ?_)
         ·try simp only [za,zb,zc,zd,ze,zf,Bool.not_true,Bool.not_false,zg,zh,ne_eq,zi,zj] at g2
          refine lx_qg rfl rfl rfl rfl rfl (by decide) (qt_move rfl rfl) ?_
          refine lx_qg rfl rfl rfl rfl rfl (by decide) (qt_nilCheck rfl rfl) ?_
          refine lx_qg rfl rfl rfl rfl rfl (by decide) (qt_fieldAddr rfl rfl tyf_spec_l13Edge_1) ?_
          refine lx_qg rfl rfl rfl rfl rfl (by decide) (qt_loadS rfl rfl tys_impl_Pt rfl (by first | exact rdLegA (b := eg) (o := 0) (j := i) (fun w' hs => rowLegs (k := 1) rfl rfl w' hs) hlt | exact rdLegB (b := eg) (o := 0) (j := i) (fun w' hs => rowLegs (k := 1) rfl rfl w' hs) hlt | exact rdLegA (b := eg) (o := 0) (j := k) (fun w' hs => rowLegs (k := 1) rfl rfl w' hs) hkl | exact rdLegB (b := eg) (o := 0) (j := k) (fun w' hs => rowLegs (k := 1) rfl rfl w' hs) hkl)) ?_
          refine lx_qg rfl rfl rfl rfl rfl (by decide) (qt_move rfl rfl) ?_
          refine lx_qg rfl rfl rfl rfl rfl (by decide) (qt_nilCheck rfl rfl) ?_
          refine lx_qg rfl rfl rfl rfl rfl (by decide) (qt_fieldAddr rfl rfl tyf_spec_l13Edge_0) ?_
          refine lx_qg rfl rfl rfl rfl rfl (by decide) (qt_loadS rfl rfl tys_impl_Pt rfl (by first | exact rdLegA (b := eg) (o := 0) (j := i) (fun w' hs => rowLegs (k := 1) rfl rfl w' hs) hlt | exact rdLegB (b := eg) (o := 0) (j := i) (fun w' hs => rowLegs (k := 1) rfl rfl w' hs) hlt | exact rdLegA (b := eg) (o := 0) (j := k) (fun w' hs => rowLegs (k := 1) rfl rfl w' hs) hkl | exact rdLegB (b := eg) (o := 0) (j := k) (fun w' hs => rowLegs (k := 1) rfl rfl w' hs) hkl)) ?_
          refine lx_qg rfl rfl rfl rfl rfl (by decide) (qt_neqS_impl_Pt rfl rfl rfl) ?_
          refine lx_q rfl rfl (by decide) (qt_pickT rfl rfl rfl) ?_
          refine lx_q rfl rfl (by decide) (qt_move rfl rfl) ?_
          refine lx_bsplit 83 rfl (fun g3 => ?_) (fun g3 => ?_)
          ·try simp only [za,zb,zc,zd,ze,zf,Bool.not_true,Bool.not_false,zg,zh,ne_eq,zi,zj] at g3
           refine lx_qg rfl rfl rfl rfl rfl (by decide) (qt_move rfl rfl) ?_
           refine lx_qg rfl rfl rfl rfl rfl (by decide) (qt_nilCheck rfl rfl) ?_
           refine lx_qg rfl rfl rfl rfl rfl (by decide) (qt_fieldAddr rfl rfl tyf_spec_l13Edge_1) ?_
           refine lx_qg rfl rfl rfl rfl rfl (by decide) (qt_loadS rfl rfl tys_impl_Pt rfl (by first | exact rdLegA (b := eg) (o := 0) (j := i) (fun w' hs => rowLegs (k := 1) rfl rfl w' hs) hlt | exact rdLegB (b := eg) (o := 0) (j := i) (fun w' hs => rowLegs (k := 1) rfl rfl w' hs) hlt | exact rdLegA (b := eg) (o := 0) (j := k) (fun w' hs => rowLegs (k := 1) rfl rfl w' hs) hkl | exact rdLegB (b := eg) (o := 0) (j := k) (fun w' hs => rowLegs (k := 1) rfl rfl w' hs) hkl)) ?_
           refine lx_qg rfl rfl rfl rfl rfl (by decide) (qt_move rfl rfl) ?_
           refine lx_qg rfl rfl rfl rfl rfl (by decide) (qt_nilCheck rfl rfl) ?_
           refine lx_qg rfl rfl rfl rfl rfl (by decide) (qt_fieldAddr rfl rfl tyf_spec_l13Edge_1) ?_
           refine lx_qg rfl rfl rfl rfl rfl (by decide) (qt_loadS rfl rfl tys_impl_Pt rfl (by first | exact rdLegA (b := eg) (o := 0) (j := i) (fun w' hs => rowLegs (k := 1) rfl rfl w' hs) hlt | exact rdLegB (b := eg) (o := 0) (j := i) (fun w' hs => rowLegs (k := 1) rfl rfl w' hs) hlt | exact rdLegA (b := eg) (o := 0) (j := k) (fun w' hs => rowLegs (k := 1) rfl rfl w' hs) hkl | exact rdLegB (b := eg) (o := 0) (j := k) (fun w' hs => rowLegs (k := 1) rfl rfl w' hs) hkl)) ?_
           refine lx_qg rfl rfl rfl rfl rfl (by decide) (qt_neqS_impl_Pt rfl rfl rfl) ?_
           refine lx_q rfl rfl (by decide) (qt_pickT rfl rfl rfl) ?_
           refine lx_end ?_
           refine norm_then ?_
           exact at_meet hC_cut_17 ⟨vb (by simp only [touchNo, *, Bool.not_true, Bool.not_false, Bool.true_and, Bool.false_and, Bool.and_false, Bool.and_true]), rfl, rfl, rfl, rfl, rfl, rfl, rfl, rfl, rfl, rfl, rfl, rfl, rfl, rfl, rfl, rfl, rfl, rfl, rfl, rfl, rfl, rfl, rfl, rfl, rfl, rfl, rfl, rfl, rfl, rfl, rfl, rfl, rfl, rfl, rfl, rfl, rfl, rfl, rfl, rfl, rfl, rfl, rfl, trivial⟩ (fun _ h => h.upto ⟨rfl, rfl, trivial⟩)
          ·try simp only [za,zb,zc,zd,ze,zf,Bool.not_true,Bool.not_false,zg,zh,ne_eq,zi,zj] at g3
           refine lx_off rfl rfl rfl rfl (by decide) rfl (by decide) ?_
           refine lx_off rfl rfl rfl rfl (by decide) rfl (by decide) ?_
           refine lx_off rfl rfl rfl rfl (by decide) rfl (by decide) ?_
           refine lx_off rfl rfl rfl rfl (by decide) rfl (by decide) ?_
           refine lx_off rfl rfl rfl rfl (by decide) rfl (by decide) ?_
           refine lx_off rfl rfl rfl rfl (by decide) rfl (by decide) ?_
           refine lx_off rfl rfl rfl rfl (by decide) rfl (by decide) ?_
           refine lx_off rfl rfl rfl rfl (by decide) rfl (by decide) ?_
           refine lx_off rfl rfl rfl rfl (by decide) rfl (by decide) ?_
           refine lx_q rfl rfl (by decide) (qt_pickF rfl rfl rfl) ?_
           refine lx_end ?_
           refine norm_then ?_
           exact at_meet hC_cut_17 ⟨vb (by simp only [touchNo, *, Bool.not_true, Bool.not_false, Bool.true_and, Bool.false_and, Bool.and_false, Bool.and_true]), rfl, rfl, rfl, rfl, rfl, rfl, rfl, rfl, rfl, rfl, rfl, rfl, rfl, rfl, rfl, rfl, rfl, rfl, rfl, rfl, rfl, rfl, rfl, rfl, rfl, rfl, rfl, rfl, rfl, rfl, rfl, rfl, rfl, rfl, rfl, rfl, rfl, rfl, rfl, rfl, rfl, rfl, rfl, trivial⟩ (fun _ h => h.upto ⟨rfl, rfl, trivial⟩)
         ·try simp only [za,zb,zc,zd,ze,zf,Bool.not_true,Bool.not_false,zg,zh,ne_eq,zi,zj] at g2
          refine lx_off rfl rfl rfl rfl (by decide) rfl (by decide) ?_
          refine lx_off rfl rfl rfl rfl (by decide) rfl (by decide) ?_
          refine lx_off rfl rfl rfl rfl (by decide) rfl (by decide) ?_
          refine lx_off rfl rfl rfl rfl (by decide) rfl (by decide) ?_
          refine lx_off rfl rfl rfl rfl (by decide) rfl (by decide) ?_
          refine lx_off rfl rfl rfl rfl (by decide) rfl (by decide) ?_
          refine lx_off rfl rfl rfl rfl (by decide) rfl (by decide) ?_
          refine lx_off rfl rfl rfl rfl (by decide) rfl (by decide) ?_
          refine lx_off rfl rfl rfl rfl (by decide) rfl (by decide) ?_
          refine lx_q rfl rfl (by decide) (qt_pickF rfl rfl rfl) ?_
          refine lx_q rfl rfl (by decide) (qt_move rfl rfl) ?_
          refine lx_off rfl rfl rfl rfl (by decide) rfl (by decide) ?_
          refine lx_off rfl rfl rfl rfl (by decide) rfl (by decide) ?_
          refine lx_off rfl rfl rfl rfl (by decide) rfl (by decide) ?_
          refine lx_off rfl rfl rfl rfl (by decide) rfl (by decide) ?_
          refine lx_off rfl rfl rfl rfl (by decide) rfl (by decide) ?_
          refine lx_off rfl rfl rfl rfl (by decide) rfl (by decide) ?_
          refine lx_off rfl rfl rfl rfl (by decide) rfl (by decide) ?_
          refine lx_off rfl rfl rfl rfl (by decide) rfl (by decide) ?_
          refine lx_off rfl rfl rfl rfl (by decide) rfl (by decide) ?_
          refine lx_q rfl rfl (by decide) (qt_pickF rfl rfl rfl) ?_
          refine lx_end ?_
          refine norm_then ?_
          exact at_meet hC_cut_17 ⟨vb (by simp only [touchNo, *, Bool.not_true, Bool.not_false, Bool.true_and, Bool.false_and, Bool.and_false, Bool.and_true]), rfl, rfl, rfl, rfl, rfl, rfl, rfl, rfl, rfl, rfl, rfl, rfl, rfl, rfl, rfl, rfl, rfl, rfl, rfl, rfl, rfl, rfl, rfl, rfl, rfl, rfl, rfl, rfl, rfl, rfl, rfl, rfl, rfl, rfl, rfl, rfl, rfl, rfl, rfl, rfl, rfl, rfl, rfl, trivial⟩ (fun _ h => h.upto ⟨rfl, rfl, trivial⟩)
        ·try simp only [za,zb,zc,zd,ze,zf,Bool.not_true,Bool.not_false,zg,zh,ne_eq,zi,zj] at g1
         refine lx_off rfl rfl rfl rfl (by decide) rfl (by decide) ?_
         refine lx_off rfl rfl rfl rfl (by decide) rfl (by decide) ?_
         refine lx_off rfl rfl rfl rfl (by decide) rfl (by decide) ?_
         refine lx_off rfl rfl rfl rfl (by decide) rfl (by decide) ?_
         refine lx_off rfl rfl rfl rfl (by decide) rfl (by decide) ?_
         refine lx_off rfl rfl rfl rfl (by decide) rfl (by decide) ?_
         refine lx_off rfl rfl rfl rfl (by decide) rfl (by decide) ?_
         refine lx_off rfl rfl rfl rfl (by decide) rfl (by decide) ?_
         refine lx_off rfl rfl rfl rfl (by decide) rfl (by decide) ?_
         refine lx_q rfl rfl (by decide) (qt_pickF rfl rfl rfl) ?_
         refine lx_q rfl rfl (by decide) (qt_move rfl rfl) ?_
         refine lx_off rfl rfl rfl rfl (by decide) rfl (by decide) ?_
         refine lx_off rfl rfl rfl rfl (by decide) rfl (by decide) ?_
         refine lx_off rfl rfl rfl rfl (by decide) rfl (by decide) ?_
         refine lx_off rfl rfl rfl rfl (by decide) rfl (by decide) ?_
         refine lx_off rfl rfl rfl rfl (by decide) rfl (by decide) ?_
         refine lx_off rfl rfl rfl rfl (by decide) rfl (by decide) ?_
         refine lx_off rfl rfl rfl rfl (by decide) rfl (by decide) ?_
         refine lx_off rfl rfl rfl rfl (by decide) rfl (by decide) ?_
         refine lx_off rfl rfl rfl rfl (by decide) rfl (by decide) ?_
         refine lx_q rfl rfl (by decide) (qt_pickF rfl rfl rfl) ?_
         refine lx_q rfl rfl (by decide) (qt_move rfl rfl) ?_
         refine lx_off rfl rfl rfl rfl (by decide) rfl (by decide) ?_
         refine lx_off rfl rfl rfl rfl (by decide) rfl (by decide) ?_
         refine lx_off rfl rfl rfl rfl (by decide) rfl (by decide) ?_
         refine lx_off rfl rfl rfl rfl (by decide) rfl (by decide) ?_
         refine lx_off rfl rfl rfl rfl (by decide) rfl (by decide) ?_
         refine lx_off rfl rfl rfl rfl (by decide) rfl (by decide) ?_
         refine lx_off rfl rfl rfl rfl (by decide) rfl (by decide) ?_
         refine lx_off rfl rfl rfl rfl (by decide) rfl (by decide) ?_
         refine lx_off rfl rfl rfl rfl (by decide) rfl (by decide) ?_
         refine lx_q rfl rfl (by decide) (qt_pickF rfl rfl rfl) ?_
         refine lx_end ?_
         refine norm_then ?_
         exact at_meet hC_cut_17 ⟨vb (by simp only [touchNo, *, Bool.not_true, Bool.not_false, Bool.true_and, Bool.false_and, Bool.and_false, Bool.and_true]), rfl, rfl, rfl, rfl, rfl, rfl, rfl, rfl, rfl, rfl, rfl, rfl, rfl, rfl, rfl, rfl, rfl, rfl, rfl, rfl, rfl, rfl, rfl, rfl, rfl, rfl, rfl, rfl, rfl, rfl, rfl, rfl, rfl, rfl, rfl, rfl, rfl, rfl, rfl, rfl, rfl, rfl, rfl, trivial⟩ (fun _ h => h.upto ⟨rfl, rfl, trivial⟩)
       ·refine at_envE (by simp only [ya,yb]; rfl) ?_
        refine at_cond rfl (fun c7 => ?_) (fun c7 => ?_)
        ·try simp only [za,zb,zc,zd,ze,zf,Bool.not_true,Bool.not_false,zg,zh,ne_eq,zi,zj] at c7
         refine at_seq ?_
         refine at_region ?_
         refine at_q rfl rfl (by decide) (qt_assign rfl rfl) ?_
         refine at_end ?_
         refine at_retc ?_
         refine pass_ret ?_
         refine pass_ret ?_
         refine then_ret ?_
         refine then_ret ?_
         refine pass_ret ?_
         refine pass_ret ?_
         refine then_ret ?_
         refine then_ret ?_
         refine pass_ret ?_
         refine then_ret ?_
         refine at_ret1 rfl (.tmp rfl) ?_
         intro w' hs
         exact ⟨retB (by rw [eB]; exact snapAll_no hlt hkt (by rw [← epl, ps_touch c4 c6, c7]; rfl)), hs.fin⟩
        ·try simp only [za,zb,zc,zd,ze,zf,Bool.not_true,Bool.not_false,zg,zh,ne_eq,zi,zj] at c7
         refine at_skip ?_
         refine norm_block ?_
         refine norm_block ?_
         refine norm_then ?_
         refine at_region ?_
         refine at_q rfl rfl (by decide) (qt_move rfl rfl) ?_
         refine at_q rfl rfl (by decide) (qt_add rfl rfl rfl (by omega) (by omega)) ?_
         refine at_q rfl rfl (by decide) (qt_assign rfl rfl) ?_
         refine at_end ?_
         exact at_againc hL2 (k + 1) (⟨by omega, lt_succ_all hk.2 (by rw [← epl, ps_touch c4 c6, c7]; rfl)⟩) (by omega) ⟨vi (by omega), rfl, rfl, rfl, rfl, rfl, rfl, rfl, trivial⟩ (fun _ h => h.upto ⟨rfl, rfl, trivial⟩)
      ·try simp only [za,zb,zc,zd,ze,zf,Bool.not_true,Bool.not_false,zg,zh,ne_eq,zi,zj] at c6
       refine at_seq ?_
       refine at_region ?_
       refine at_q rfl rfl (by decide) (qt_eql rfl rfl rfl) ?_
       refine at_q rfl rfl (by decide) (qt_assign rfl rfl) ?_
       refine at_end ?_
       refine at_cond rfl (fun c8 => ?_) (fun c8 => ?_)
       ·try simp only [za,zb,zc,zd,ze,zf,Bool.not_true,Bool.not_false,zg,zh,ne_eq,zi,zj] at c8
        refine at_cutE [(139, .bool (lapNo (lg ls i) (lg ls k)))] (C := [(2, _), (3, _), (4, _), (11, _), (12, _), (13, _), (14, _), (5, _), (17, _), (18, _), (19, _), (22, _), (23, _), (24, _), (6, _), (25, _), (26, _), (27, _), (7, _), (28, _), (29, _), (30, _), (31, _), (32, _), (33, _), (34, _), (35, _), (36, _), (37, _), (38, _), (39, _), (40, _), (41, _), (42, _), (43, _), (44, _), (45, _), (46, _), (47, _), (49, _), (48, _), (51, _), (50, _), (95, _), (94, _)])  ⟨rfl, rfl, rfl, rfl, rfl, rfl, rfl, rfl, rfl, rfl, rfl, rfl, rfl, rfl, rfl, rfl, rfl, rfl, rfl, rfl, rfl, rfl, rfl, rfl, rfl, rfl, rfl, rfl, rfl, rfl, rfl, rfl, rfl, rfl, rfl, rfl, rfl, rfl, rfl, rfl, rfl, rfl, rfl, rfl, rfl, trivial⟩ (fun L hC_cut_20 => ?_) ?_
        ·refine lx_start mixed (by kernel_rfl) (fun _ _ d _ _ h => by cases d <;> exact h) ?_
         refine lx_q rfl rfl (by decide) (qt_move rfl rfl) ?_
         refine lx_q rfl rfl (by decide) (qt_nilCheck rfl rfl) ?_
         refine lx_q rfl rfl (by decide) (qt_fieldAddr rfl rfl tyf_spec_l13Edge_0) ?_
         refine lx_q rfl rfl (by decide) (qt_loadS rfl rfl tys_impl_Pt rfl (by first | exact rdLegA (b := eg) (o := 0) (j := i) (fun w' hs => rowLegs (k := 1) rfl rfl w' hs) hlt | exact rdLegB (b := eg) (o := 0) (j := i) (fun w' hs => rowLegs (k := 1) rfl rfl w' hs) hlt | exact rdLegA (b := eg) (o := 0) (j := k) (fun w' hs => rowLegs (k := 1) rfl rfl w' hs) hkl | exact rdLegB (b := eg) (o := 0) (j := k) (fun w' hs => rowLegs (k := 1) rfl rfl w' hs) hkl)) ?_
         refine lx_q rfl rfl (by decide) (qt_move rfl rfl) ?_
         refine lx_q rfl rfl (by decide) (qt_nilCheck rfl rfl) ?_
         refine lx_q rfl rfl (by decide) (qt_fieldAddr rfl rfl tyf_spec_l13Edge_0) ?_
         refine lx_q rfl rfl (by decide) (qt_loadS rfl rfl tys_impl_Pt rfl (by first | exact rdLegA (b := eg) (o := 0) (j := i) (fun w' hs => rowLegs (k := 1) rfl rfl w' hs) hlt | exact rdLegB (b := eg) (o := 0) (j := i) (fun w' hs => rowLegs (k := 1) rfl rfl w' hs) hlt | exact rdLegA (b := eg) (o := 0) (j := k) (fun w' hs => rowLegs (k := 1) rfl rfl w' hs) hkl | exact rdLegB (b := eg) (o := 0) (j := k) (fun w' hs => rowLegs (k := 1) rfl rfl w' hs) hkl)) ?_
         refine lx_q rfl rfl (by decide) (qt_eqlS_impl_Pt rfl rfl rfl) ?_
         refine lx_q rfl rfl (by decide) (qt_move rfl rfl) ?_
         refine lx_bsplit 105 rfl (fun g4 => ?_) (fun g4 => ?_)
         ·try simp only [za,zb,zc,zd,ze,zf,Bool.not_true,Bool.not_false,zg,zh,ne_eq,zi,zj] at g4
          refine lx_qg rfl rfl rfl rfl rfl (by decide) (qt_move rfl rfl) ?_
          refine lx_qg rfl rfl rfl rfl rfl (by decide) (qt_nilCheck rfl rfl) ?_
          refine lx_qg rfl rfl rfl rfl rfl (by decide) (qt_fieldAddr rfl rfl tyf_spec_l13Edge_1) ?_
          refine lx_qg rfl rfl rfl rfl rfl (by decide) (qt_loadS rfl rfl tys_impl_Pt rfl (by first | exact rdLegA (b := eg) (o := 0) (j := i) (fun w' hs => rowLegs (k := 1) rfl rfl w' hs) hlt | exact rdLegB (b := eg) (o := 0) (j := i) (fun w' hs => rowLegs (k := 1) rfl rfl w' hs) hlt | exact rdLegA (b := eg) (o := 0) (j := k) (fun w' hs => rowLegs (k := 1) rfl rfl w' hs) hkl | exact rdLegB (b := eg) (o := 0) (j := k) (fun w' hs => rowLegs (k := 1) rfl rfl w' hs) hkl)) ?_
          refine lx_qg rfl rfl rfl rfl rfl (by decide) (qt_move rfl rfl) ?_
          refine lx_qg rfl rfl rfl rfl rfl (by decide) (qt_nilCheck rfl rfl) ?_
          refine lx_qg rfl rfl rfl rfl rfl (by decide) (qt_fieldAddr rfl rfl tyf_spec_l13Edge_1) ?_
          refine lx_qg rfl rfl rfl rfl rfl (by decide) (qt_loadS rfl rfl tys_impl_Pt rfl (by first | exact rdLegA (b := eg) (o := 0) (j := i) (fun w' hs => rowLegs (k := 1) rfl rfl w' hs) hlt | exact rdLegB (b := eg) (o := 0) (j := i) (fun w' hs => rowLegs (k := 1) rfl rfl w' hs) hlt | exact rdLegA (b := eg) (o := 0) (j := k) (fun w' hs => rowLegs (k := 1) rfl rfl w' hs) hkl | exact rdLegB (b := eg) (o := 0) (j := k) (fun w' hs => rowLegs (k := 1) rfl rfl w' hs) hkl)) ?_
          refine lx_qg rfl rfl rfl rfl rfl (by decide) (qt_eqlS_impl_Pt rfl rfl rfl) ?_
          refine lx_q rfl rfl (by decide) (qt_pickT rfl rfl rfl) ?_
          refine lx_q rfl rfl (by decide) (qt_not rfl rfl) ?_
          refine lx_q rfl rfl (by decide) (qt_move rfl rfl) ?_
          refine lx_bsplit 117 rfl (fun g5 => ?_) (fun g5 => ?_)
          ·try simp only [za,zb,zc,zd,ze,zf,Bool.not_true,Bool.not_false,zg,zh,ne_eq,zi,zj] at g5
           refine lx_qg rfl rfl rfl rfl rfl (by decide) (qt_move rfl rfl) ?_
           refine lx_qg rfl rfl rfl rfl rfl (by decide) (qt_nilCheck rfl rfl) ?_
           refine lx_qg rfl rfl rfl rfl rfl (by decide) (qt_fieldAddr rfl rfl tyf_spec_l13Edge_0) ?_
           refine lx_qg rfl rfl rfl rfl rfl (by decide) (qt_loadS rfl rfl tys_impl_Pt rfl (by first | exact rdLegA (b := eg) (o := 0) (j := i) (fun w' hs => rowLegs (k := 1) rfl rfl w' hs) hlt | exact rdLegB (b := eg) (o := 0) (j := i) (fun w' hs => rowLegs (k := 1) rfl rfl w' hs) hlt | exact rdLegA (b := eg) (o := 0) (j := k) (fun w' hs => rowLegs (k := 1) rfl rfl w' hs) hkl | exact rdLegB (b := eg) (o := 0) (j := k) (fun w' hs => rowLegs (k := 1) rfl rfl w' hs) hkl)) ?_
           refine lx_qg rfl rfl rfl rfl rfl (by decide) (qt_move rfl rfl) ?_
           refine lx_qg rfl rfl rfl rfl rfl (by decide) (qt_nilCheck rfl rfl) ?_
           refine lx_qg rfl rfl rfl rfl rfl (by decide) (qt_fieldAddr rfl rfl tyf_spec_l13Edge_1) ?_
           refine lx_qg rfl rfl rfl rfl rfl (by decide) (qt_loadS rfl rfl tys_impl_Pt rfl (by first | exact rdLegA (b := eg) (o := 0) (j := i) (fun w' hs => rowLegs (k := 1) rfl rfl w' hs) hlt | exact rdLegB (b := eg) (o := 0) (j := i) (fun w' hs => rowLegs (k := 1) rfl rfl w' hs) hlt | exact rdLegA (b := eg) (o := 0) (j := k) (fun w' hs => rowLegs (k := 1) rfl rfl w' hs) hkl | exact rdLegB (b := eg) (o := 0) (j := k) (fun w' hs => rowLegs (k := 1) rfl rfl w' hs) hkl)) ?_
           refine lx_qg rfl rfl rfl rfl rfl (by decide) (qt_eqlS_impl_Pt rfl rfl rfl) ?_
           refine lx_qg rfl rfl rfl rfl rfl (by decide) (qt_move rfl rfl) ?_
           refine lx_bsplit 127 rfl (fun g6 => ?_) (fun g6 => ?_)
           ·try simp only [za,zb,zc,zd,ze,zf,Bool.not_true,Bool.not_false,zg,zh,ne_eq,zi,zj] at g6
            refine lx_qg rfl rfl rfl rfl rfl (by decide) (qt_move rfl rfl) ?_
            refine lx_qg rfl rfl rfl rfl rfl (by decide) (qt_nilCheck rfl rfl) ?_
            refine lx_qg rfl rfl rfl rfl rfl (by decide) (qt_fieldAddr rfl rfl tyf_spec_l13Edge_1) ?_
            refine lx_qg rfl rfl rfl rfl rfl (by decide) (qt_loadS rfl rfl tys_impl_Pt rfl (by first | exact rdLegA (b := eg) (o := 0) (j := i) (fun w' hs => rowLegs (k := 1) rfl rfl w' hs) hlt | exact rdLegB (b := eg) (o := 0) (j := i) (fun w' hs => rowLegs (k := 1) rfl rfl w' hs) hlt | exact rdLegA (b := eg) (o := 0) (j := k) (fun w' hs => rowLegs (k := 1) rfl rfl w' hs) hkl | exact rdLegB (b := eg) (o := 0) (j := k) (fun w' hs => rowLegs (k := 1) rfl rfl w' hs) hkl)) ?_
            refine lx_qg rfl rfl rfl rfl rfl (by decide) (qt_move rfl rfl) ?_
            refine lx_qg rfl rfl rfl rfl rfl (by decide) (qt_nilCheck rfl rfl) ?_
            refine lx_qg rfl rfl rfl rfl rfl (by decide) (qt_fieldAddr rfl rfl tyf_spec_l13Edge_0) ?_
            refine lx_qg rfl rfl rfl rfl rfl (by decide) (qt_loadS rfl rfl tys_impl_Pt rfl (by first | exact rdLegA (b := eg) (o := 0) (j := i) (fun w' hs => rowLegs (k := 1) rfl rfl w' hs) hlt | exact rdLegB (b := eg) (o := 0) (j := i) (fun w' hs => rowLegs (k := 1) rfl rfl w' hs) hlt | exact rdLegA (b := eg) (o := 0) (j := k) (fun w' hs => rowLegs (k := 1) rfl rfl w' hs) hkl | exact rdLegB (b := eg) (o := 0) (j := k) (fun w' hs => rowLegs (k := 1) rfl rfl w' hs) hkl)) ?_
            refine lx_qg rfl rfl rfl rfl rfl (by decide) (qt_eqlS_impl_Pt rfl rfl rfl) ?_
            refine lx_qg rfl rfl rfl rfl rfl (by decide) (qt_pickT rfl rfl rfl) ?_
            refine lx_qg rfl rfl rfl rfl rfl (by decide) (qt_not rfl rfl) ?_
            refine lx_q rfl rfl (by decide) (qt_pickT rfl rfl rfl) ?_
            refine lx_end ?_
            refine norm_then ?_
            exact at_meet hC_cut_20 ⟨vb (by simp only [lapNo, *, Bool.not_true, Bool.not_false, Bool.true_and, Bool.false_and, Bool.and_false, Bool.and_true]), rfl, rfl, rfl, rfl, rfl, rfl, rfl, rfl, rfl, rfl, rfl, rfl, rfl, rfl, rfl, rfl, rfl, rfl, rfl, rfl, rfl, rfl, rfl, rfl, rfl, rfl, rfl, rfl, rfl, rfl, rfl, rfl, rfl, rfl, rfl, rfl, rfl, rfl, rfl, rfl, rfl, rfl, rfl, rfl, rfl, trivial⟩ (fun _ h => h.upto ⟨rfl, rfl, trivial⟩)
           ·try simp only [za,zb,zc,zd,ze,zf,Bool.not_true,Bool.not_false,zg,zh,ne_eq,zi,zj] at g6
            refine lx_off rfl rfl rfl rfl (by decide) rfl (by decide) ?_
            refine lx_off rfl rfl rfl rfl (by decide) rfl (by decide) ?_
            refine lx_off rfl rfl rfl rfl (by decide) rfl (by decide) ?_
            refine lx_off rfl rfl rfl rfl (by decide) rfl (by decide) ?_
            refine lx_off rfl rfl rfl rfl (by decide) rfl (by decide) ?_
            refine lx_off rfl rfl rfl rfl (by decide) rfl (by decide) ?_
            refine lx_off rfl rfl rfl rfl (by decide) rfl (by decide) ?_
            refine lx_off rfl rfl rfl rfl (by decide) rfl (by decide) ?_
            refine lx_off rfl rfl rfl rfl (by decide) rfl (by decide) ?_
            refine lx_qg rfl rfl rfl rfl rfl (by decide) (qt_pickF rfl rfl rfl) ?_
            refine lx_qg rfl rfl rfl rfl rfl (by decide) (qt_not rfl rfl) ?_
            refine lx_q rfl rfl (by decide) (qt_pickT rfl rfl rfl) ?_
            refine lx_end ?_
            refine norm_then ?_
            exact at_meet hC_cut_20 ⟨vb (by simp only [lapNo, *, Bool.not_true, Bool.not_false, Bool.true_and, Bool.false_and, Bool.and_false, Bool.and_true]), rfl, rfl, rfl, rfl, rfl, rfl, rfl, rfl, rfl, rfl, rfl, rfl, rfl, rfl, rfl, rfl, rfl, rfl, rfl, rfl, rfl, rfl, rfl, rfl, rfl, rfl, rfl, rfl, rfl, rfl, rfl, rfl, rfl, rfl, rfl, rfl, rfl, rfl, rfl, rfl, rfl, rfl, rfl, rfl, rfl, trivial⟩ (fun _ h => h.upto ⟨rfl, rfl, trivial⟩)
          ·try simp only [za,zb,zc,zd,ze,zf,Bool.not_true,Bool.not_false,zg,zh,ne_eq,zi,zj] at g5
           refine lx_off rfl rfl rfl rfl (by decide) rfl (by decide) ?_
           refine lx_off rfl rfl rfl rfl (by decide) rfl (by decide) ?_
           refine lx_off rfl rfl rfl rfl (by decide) rfl (by decide) ?_
           refine lx_off rfl rfl rfl rfl (by decide) rfl (by decide) ?_
           refine lx_off rfl rfl rfl rfl (by decide) rfl (by decide) ?_
           refine lx_off rfl rfl rfl rfl (by decide) rfl (by decide) ?_
           refine lx_off rfl rfl rfl rfl (by decide) rfl (by decide) ?_
           refine lx_off rfl rfl rfl rfl (by decide) rfl (by decide) ?_
           refine lx_off rfl rfl rfl rfl (by decide) rfl (by decide) ?_
           refine lx_off rfl rfl rfl rfl (by decide) rfl (by decide) ?_
           refine lx_offu rfl rfl rfl rfl rfl (by decide) ?_
           refine lx_offu rfl rfl rfl rfl rfl (by decide) ?_
           refine lx_offu rfl rfl rfl rfl rfl (by decide) ?_
           refine lx_offu rfl rfl rfl rfl rfl (by decide) ?_
           refine lx_offu rfl rfl rfl rfl rfl (by decide) ?_
           refine lx_offu rfl rfl rfl rfl rfl (by decide) ?_
           refine lx_offu rfl rfl rfl rfl rfl (by decide) ?_
           refine lx_offu rfl rfl rfl rfl rfl (by decide) ?_
           refine lx_offu rfl rfl rfl rfl rfl (by decide) ?_
           refine lx_off rfl rfl rfl rfl (by decide) rfl (by decide) ?_
           refine lx_off rfl rfl rfl rfl (by decide) rfl (by decide) ?_
           refine lx_q rfl rfl (by decide) (qt_pickF rfl rfl rfl) ?_
           refine lx_end ?_
           refine norm_then ?_
           exact at_meet hC_cut_20 ⟨vb (by simp only [lapNo, *, Bool.not_true, Bool.not_false, Bool.true_and, Bool.false_and, Bool.and_false, Bool.and_true]), rfl, rfl, rfl, rfl, rfl, rfl, rfl, rfl, rfl, rfl, rfl, rfl, rfl, rfl, rfl, rfl, rfl, rfl, rfl, rfl, rfl, rfl, rfl, rfl, rfl, rfl, rfl, rfl, rfl, rfl, rfl, rfl, rfl, rfl, rfl, rfl, rfl, rfl, rfl, rfl, rfl, rfl, rfl, rfl, rfl, trivial⟩ (fun _ h => h.upto ⟨rfl, rfl, trivial⟩)
         ·try simp only [za,zb,zc,zd,ze,zf,Bool.not_true,Bool.not_false,zg,zh,ne_eq,zi,zj] at g4
          refine lx_off rfl rfl rfl rfl (by decide) rfl (by decide) ?_
          refine lx_off rfl rfl rfl rfl (by decide) rfl (by decide) ?_
          refine lx_off rfl rfl rfl rfl (by decide) rfl (by decide) ?_
          refine lx_off rfl rfl rfl rfl (by decide) rfl (by decide) ?_
          refine lx_off rfl rfl rfl rfl (by decide) rfl (by decide) ?_
          refine lx_off rfl rfl rfl rfl (by decide) rfl (by decide) ?_
          refine lx_off rfl rfl rfl rfl (by decide) rfl (by decide) ?_
          refine lx_off rfl rfl rfl rfl (by decide) rfl (by decide) ?_
          refine lx_off rfl rfl rfl rfl (by decide) rfl (by decide) ?_
          refine lx_q rfl rfl (by decide) (qt_pickF rfl rfl rfl) ?_
          refine lx_q rfl rfl (by decide) (qt_not rfl rfl) ?_
          refine lx_q rfl rfl (by decide) (qt_move rfl rfl) ?_
          refine lx_qg rfl rfl rfl rfl rfl (by decide) (qt_move rfl rfl) ?_
          refine lx_qg rfl rfl rfl rfl rfl (by decide) (qt_nilCheck rfl rfl) ?_
          refine lx_qg rfl rfl rfl rfl rfl (by decide) (qt_fieldAddr rfl rfl tyf_spec_l13Edge_0) ?_
          refine lx_qg rfl rfl rfl rfl rfl (by decide) (qt_loadS rfl rfl tys_impl_Pt rfl (by first | exact rdLegA (b := eg) (o := 0) (j := i) (fun w' hs => rowLegs (k := 1) rfl rfl w' hs) hlt | exact rdLegB (b := eg) (o := 0) (j := i) (fun w' hs => rowLegs (k := 1) rfl rfl w' hs) hlt | exact rdLegA (b := eg) (o := 0) (j := k) (fun w' hs => rowLegs (k := 1) rfl rfl w' hs) hkl | exact rdLegB (b := eg) (o := 0) (j := k) (fun w' hs => rowLegs (k := 1) rfl rfl w' hs) hkl)) ?_
          refine lx_qg rfl rfl rfl rfl rfl (by decide) (qt_move rfl rfl) ?_
          refine lx_qg rfl rfl rfl rfl rfl (by decide) (qt_nilCheck rfl rfl) ?_
          refine lx_qg rfl rfl rfl rfl rfl (by decide) (qt_fieldAddr rfl rfl tyf_spec_l13Edge_1) ?_
          refine lx_qg rfl rfl rfl rfl rfl (by decide) (qt_loadS rfl rfl tys_impl_Pt rfl (by first | exact rdLegA (b := eg) (o := 0) (j := i) (fun w' hs => rowLegs (k := 1) rfl rfl w' hs) hlt | exact rdLegB (b := eg) (o := 0) (j := i) (fun w' hs => rowLegs (k := 1) rfl rfl w' hs) hlt | exact rdLegA (b := eg) (o := 0) (j := k) (fun w' hs => rowLegs (k := 1) rfl rfl w' hs) hkl | exact rdLegB (b := eg) (o := 0) (j := k) (fun w' hs => rowLegs (k := 1) rfl rfl w' hs) hkl)) ?_
          refine lx_qg rfl rfl rfl rfl rfl (by decide) (qt_eqlS_impl_Pt rfl rfl rfl) ?_
          refine lx_qg rfl rfl rfl rfl rfl (by decide) (qt_move rfl rfl) ?_
          refine lx_bsplit 127 rfl (fun g7 => ?_) (fun g7 => ?_)
          ·try simp only [za,zb,zc,zd,ze,zf,Bool.not_true,Bool.not_false,zg,zh,ne_eq,zi,zj] at g7
           refine lx_qg rfl rfl rfl rfl rfl (by decide) (qt_move rfl rfl) ?_
           refine lx_qg rfl rfl rfl rfl rfl (by decide) (qt_nilCheck rfl rfl) ?_
           refine lx_qg rfl rfl rfl rfl rfl (by decide) (qt_fieldAddr rfl rfl tyf_spec_l13Edge_1) ?_
           refine lx_qg rfl rfl rfl rfl rfl (by decide) (qt_loadS rfl rfl tys_impl_Pt rfl (by first | exact rdLegA (b := eg) (o := 0) (j := i) (fun w' hs => rowLegs (k := 1) rfl rfl w' hs) hlt | exact rdLegB (b := eg) (o := 0) (j := i) (fun w' hs => rowLegs (k := 1) rfl rfl w' hs) hlt | exact rdLegA (b := eg) (o := 0) (j := k) (fun w' hs => rowLegs (k := 1) rfl rfl w' hs) hkl | exact rdLegB (b := eg) (o := 0) (j := k) (fun w' hs => rowLegs (k := 1) rfl rfl w' hs) hkl)) ?_
           refine lx_qg rfl rfl rfl rfl rfl (by decide) (qt_move rfl rfl) ?_
           refine lx_qg rfl rfl rfl rfl rfl (by decide) (qt_nilCheck rfl rfl) ?_
           refine lx_qg rfl rfl rfl rfl rfl (by decide) (qt_fieldAddr rfl rfl tyf_spec_l13Edge_0) ?_
           refine lx_qg rfl rfl rfl rfl rfl (by decide) (qt_loadS rfl rfl tys_impl_Pt rfl (by first | exact rdLegA (b := eg) (o := 0) (j := i) (fun w' hs => rowLegs (k := 1) rfl rfl w' hs) hlt | exact rdLegB (b := eg) (o := 0) (j := i) (fun w' hs => rowLegs (k := 1) rfl rfl w' hs) hlt | exact rdLegA (b := eg) (o := 0) (j := k) (fun w' hs => rowLegs (k := 1) rfl rfl w' hs) hkl | exact rdLegB (b := eg) (o := 0) (j := k) (fun w' hs => rowLegs (k := 1) rfl rfl w' hs) hkl)) ?_
           refine lx_qg rfl rfl rfl rfl rfl (by decide) (qt_eqlS_impl_Pt rfl rfl rfl) ?_
           refine lx_qg rfl rfl rfl rfl rfl (by decide) (qt_pickT rfl rfl rfl) ?_
           refine lx_qg rfl rfl rfl rfl rfl (by decide) (qt_not rfl rfl) ?_
           refine lx_q rfl rfl (by decide) (qt_pickT rfl rfl rfl) ?_
           refine lx_end ?_
           refine norm_then ?_
           exact at_meet hC_cut_20 ⟨vb (by simp only [lapNo, *, Bool.not_true, Bool.not_false, Bool.true_and, Bool.false_and, Bool.and_false, Bool.and_true]), rfl, rfl, rfl, rfl, rfl, rfl, rfl, rfl, rfl, rfl, rfl, rfl, rfl, rfl, rfl, rfl, rfl, rfl, rfl, rfl, rfl, rfl, rfl, rfl, rfl, rfl, rfl, rfl, rfl, rfl, rfl, rfl, rfl, rfl, rfl, rfl, rfl, rfl, rfl, rfl, rfl, rfl, rfl, rfl, rfl, trivial⟩ (fun _ h => h.upto ⟨rfl, rfl, trivial⟩)
          ·try simp only [za,zb,zc,zd,ze,zf,Bool.not_true,Bool.not_false,zg,zh,ne_eq,zi,zj] at g7
           refine lx_off rfl rfl rfl rfl (by decide) rfl (by decide) ?_
           refine lx_off rfl rfl rfl rfl (by decide) rfl (by decide) ?_
           refine lx_off rfl rfl rfl rfl (by decide) rfl (by decide) ?_
           refine lx_off rfl rfl rfl rfl (by decide) rfl (by decide) ?_
           refine lx_off rfl rfl rfl rfl (by decide) rfl (by decide) ?_
           refine lx_off rfl rfl rfl rfl (by decide) rfl (by decide) ?_
           refine lx_off rfl rfl rfl rfl (by decide) rfl (by decide) ?_
           refine lx_off rfl rfl rfl rfl (by decide) rfl (by decide) ?_
           refine lx_off rfl rfl rfl rfl (by decide) rfl (by decide) ?_
           refine lx_qg rfl rfl rfl rfl rfl (by decide) (qt_pickF rfl rfl rfl) ?_
           refine lx_qg rfl rfl rfl rfl rfl (by decide) (qt_not rfl rfl) ?_
           refine lx_q rfl rfl (by decide) (qt_pickT rfl rfl rfl) ?_
           refine lx_end ?_
           refine norm_then ?_
           exact at_meet hC_cut_20 ⟨vb (by simp only [lapNo, *, Bool.not_true, Bool.not_false, Bool.true_and, Bool.false_and, Bool.and_false, Bool.and_true]), rfl, rfl, rfl, rfl, rfl, rfl, rfl, rfl, rfl, rfl, rfl, rfl, rfl, rfl, rfl, rfl, rfl, rfl, rfl, rfl, rfl, rfl, rfl, rfl, rfl, rfl, rfl, rfl, rfl, rfl, rfl, rfl, rfl, rfl, rfl, rfl, rfl, rfl, rfl, rfl, rfl, rfl, rfl, rfl, rfl, trivial⟩ (fun _ h => h.upto ⟨rfl, rfl, trivial⟩)
        ·refine at_envE (by simp only [ya,yb]; rfl) ?_
         refine at_cond rfl (fun c9 => ?_) (fun c9 => ?_)
         ·try simp only [za,zb,zc,zd,ze,zf,Bool.not_true,Bool.not_false,zg,zh,ne_eq,zi,zj] at c9
          refine at_seq ?_
          refine at_region ?_
          refine at_q rfl rfl (by decide) (qt_assign rfl rfl) ?_
          refine at_end ?_
          refine at_retc ?_
          refine pass_ret ?_
          refine pass_ret ?_
          refine then_ret ?_
          refine then_ret ?_
          refine pass_ret ?_
          refine pass_ret ?_
          refine then_ret ?_
          refine then_ret ?_
          refine pass_ret ?_
          refine then_ret ?_
          refine at_ret1 rfl (.tmp rfl) ?_
          intro w' hs
          exact ⟨retB (by rw [eB]; exact snapAll_no hlt hkt (by rw [← epl, ps_lap c4 c8, c9]; rfl)), hs.fin⟩
         ·try simp only [za,zb,zc,zd,ze,zf,Bool.not_true,Bool.not_false,zg,zh,ne_eq,zi,zj] at c9
          refine at_skip ?_
          refine norm_block ?_
          refine norm_block ?_
          refine norm_then ?_
          refine at_region ?_
          refine at_q rfl rfl (by decide) (qt_move rfl rfl) ?_
          refine at_q rfl rfl (by decide) (qt_add rfl rfl rfl (by omega) (by omega)) ?_
          refine at_q rfl rfl (by decide) (qt_assign rfl rfl) ?_
          refine at_end ?_
          exact at_againc hL2 (k + 1) (⟨by omega, lt_succ_all hk.2 (by rw [← epl, ps_lap c4 c8, c9]; rfl)⟩) (by omega) ⟨vi (by omega), rfl, rfl, rfl, rfl, rfl, rfl, rfl, trivial⟩ (fun _ h => h.upto ⟨rfl, rfl, trivial⟩)
       ·try simp only [za,zb,zc,zd,ze,zf,Bool.not_true,Bool.not_false,zg,zh,ne_eq,zi,zj] at c8
        refine at_skip ?_
        refine norm_block ?_
        refine norm_block ?_
        refine norm_then ?_
        refine at_region ?_
        refine at_q rfl rfl (by decide) (qt_move rfl rfl) ?_
        refine at_q rfl rfl (by decide) (qt_add rfl rfl rfl (by omega) (by omega)) ?_
        refine at_q rfl rfl (by decide) (qt_assign rfl rfl) ?_
        refine at_end ?_
        exact at_againc hL2 (k + 1) (⟨by omega, lt_succ_all hk.2 (by rw [← epl, ps_none c4 c5 c6 c8])⟩) (by omega) ⟨vi (by omega), rfl, rfl, rfl, rfl, rfl, rfl, rfl, trivial⟩ (fun _ h => h.upto ⟨rfl, rfl, trivial⟩)
   ·try simp only [za,zb,zc,zd,ze,zf,Bool.not_true,Bool.not_false,zg,zh,ne_eq,zi,zj] at c3
    refine at_exit ?_
    refine pass_then (fun h => by cases h) ?_
    refine pass_then (fun h => by cases h) ?_
    refine pass_hit ?_
    refine norm_block ?_
    refine norm_then ?_
    refine at_region ?_
    refine at_q rfl rfl (by decide) (qt_move rfl rfl) ?_
    refine at_q rfl rfl (by decide) (qt_add rfl rfl rfl (by omega) (by omega)) ?_
    refine at_q rfl rfl (by decide) (qt_assign rfl rfl) ?_
    refine at_end ?_
    exact at_againc hL1 (i + 1) (⟨by omega, lt_succ_all (P := fun q => ∀ k, k < q → pairL (lg ls q) (lg ls k) = true) hi.2 (fun p hp => hk.2 p (by omega))⟩) (by omega) ⟨vi (by omega), rfl, rfl, trivial⟩ (fun _ h => h.upto ⟨rfl, rfl, trivial⟩)
  ·try simp only [za,zb,zc,zd,ze,zf,Bool.not_true,Bool.not_false,zg,zh,ne_eq,zi,zj] at c2
   refine at_exit ?_
   refine pass_then (fun h => by cases h) ?_
   refine pass_then (fun h => by cases h) ?_
   refine pass_hit ?_
   refine norm_then ?_
   refine at_seq ?_
   refine at_region ?_
   refine at_q rfl rfl (by decide) (qt_assign rfl rfl) ?_
   refine at_end ?_
   refine at_retc ?_
   refine at_ret1 rfl (.tmp rfl) ?_
   intro w' hs
   exact ⟨retB (by rw [eB]; exact snapAll_yes fun q hq => hi.2 q (by omega)), hs.fin⟩
end Go.Proofs.Ytcigocejgmafjaa
