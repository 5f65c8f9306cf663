/- Edges that only meet at their ends: the reference's; the law's walk. -/
import Derived.Test.YtnalgllmdpcjcaaMeetS
namespace Go.Proofs.Ytnalgllmdpcjcaa
open Go Go.RowKit
set_option linter.unusedVariables false
set_option linter.unusedSimpArgs false
set_option maxRecDepth 100000
set_option maxHeartbeats 4000000
set_option linter.unusedVariables false

def psL (e f : Leg) : Bool := pairS (lA e) (lB e) (lA f) (lB f)
theorem psL_pairL {e f : Leg} (he : legOk e) (hf : legOk f) (ne : lA e ≠ lB e) (nf : lA f ≠ lB f) : psL e f = pairL e f := (pair_same (lA_ok he) (lB_ok he) (lA_ok hf) (lB_ok hf) ne nf).symm
def touchNo (e f : Leg) : Bool := !(e.ax == f.ax && e.ay == f.ay) && !(e.ax == f.bx && e.ay == f.b_y) && !(e.bx == f.ax && e.b_y == f.ay) && !(e.bx == f.bx && e.b_y == f.b_y)
def lapNo (e f : Leg) : Bool := !((e.ax == f.ax && e.ay == f.ay) && (e.bx == f.bx && e.b_y == f.b_y)) && !((e.ax == f.bx && e.ay == f.b_y) && (e.bx == f.ax && e.b_y == f.ay))
theorem ps_apart {e f : Leg} (h : apartM (lA e) (lB e) (lA f) (lB f) = true) : psL e f = true := by rw [psL, pairS, if_pos h]
theorem ps_cross {e f : Leg} (h : apartM (lA e) (lB e) (lA f) (lB f) = false) (m : meetS (lA e) (lB e) (lA f) (lB f) = 2) : psL e f = false := by rw [psL, pairS, if_neg (by rw [h]; simp), if_pos m]
theorem ps_touch {e f : Leg} (h : apartM (lA e) (lB e) (lA f) (lB f) = false) (m : meetS (lA e) (lB e) (lA f) (lB f) = 1) : psL e f = !touchNo e f := by
  rw [psL, pairS, if_neg (by rw [h]; simp), if_neg (by rw [m]; decide), if_pos m]
  congr 1
  rw [Bool.eq_iff_iff]
  simp only [touchNo, Bool.and_eq_true, decide_eq_true_eq, Bool.not_eq_true', Bool.and_eq_false_iff, beq_eq_false_iff_ne, ne_eq]
  simp only [lA, lB, Prod.mk.injEq]
  omega
theorem ps_lap {e f : Leg} (h : apartM (lA e) (lB e) (lA f) (lB f) = false) (m : meetS (lA e) (lB e) (lA f) (lB f) = 3) : psL e f = !lapNo e f := by
  rw [psL, pairS, if_neg (by rw [h]; simp), if_neg (by rw [m]; decide), if_neg (by rw [m]; decide), if_pos m]
  rw [Bool.eq_iff_iff]
  have hb : ∀ P Q : Bool, (!(!P && !Q)) = (P || Q) := by decide
  simp only [lapNo, hb, Bool.or_eq_true, Bool.and_eq_true, decide_eq_true_eq, beq_iff_eq]
  simp only [lA, lB, Prod.mk.injEq]
theorem ps_none {e f : Leg} (h : apartM (lA e) (lB e) (lA f) (lB f) = false) (m2 : ¬ meetS (lA e) (lB e) (lA f) (lB f) = 2) (m1 : ¬ meetS (lA e) (lB e) (lA f) (lB f) = 1) (m3 : ¬ meetS (lA e) (lB e) (lA f) (lB f) = 3) : psL e f = true := by rw [psL, pairS, if_neg (by rw [h]; simp), if_neg m2, if_neg m1, if_neg m3]
theorem lg_ne {ls : List Leg} (h : ∀ l ∈ ls, lA l ≠ lB l) {k : Nat} (hk : k < ls.length) : lA (lg ls k) ≠ lB (lg ls k) := by
  rw [← at_l hk]
  exact h _ (List.getElem_mem hk)
theorem rowLt {w : World} {w0 : Bs} {Rs : List Res} {k B T s n g c : Nat} {xs : List Value} (hk : Rs[k]? = some (rowR B T s n xs (some ⟨g, 0, none⟩, c))) (hs : St w0 Rs w) (_hn : 0 < n) : g < w.heap.size := by
  have h : w.ownsRow B T s (.slice (some ⟨g, 0, none⟩) n c) n xs := (hs.all k _ hk).1
  exact (h.lt g rfl).2
theorem specIsSnapped_any (A : Option Addr) (n c : Nat) (rs : List Ring_) (w : World) (h : Rings w A n rs) (ht : (total rs : Int) ≤ 1048577) :
    Calls Try.prog 39 #[regV A n c] w fun e w' => e = .returned (.bool (isnB rs)) ∧ Over w w' := by
  have hl := h.1
  refine walk_from (m := 140) (Try.func39) rfl rfl (Nat.le_of_ble_eq_true rfl) ?_
  refine at_seq ?_
  refine at_region ?_
  refine at_op rfl ?_
  refine op_box rfl rfl (rfl) rfl (by decide) (fun b1 => ?_)
  refine at_rsE (by simp only [List.nil_append, List.cons_append, List.set_cons_zero, List.set_cons_succ, Value.cells, List.toList_toArray]; rfl) ?_
  refine at_q rfl rfl (by decide) (qt_assign rfl rfl) ?_
  refine at_end ?_
  refine at_seq ?_
  refine at_seq ?_
  refine at_region ?_
  refine at_q rfl rfl (by decide) (qt_call ok_spec_l13Ok rfl rfl (fun w1 hs => l13Ok_any _ _ A n c rs w1 (rd1 (k := 0) rfl rfl w1 hs) (lt_of_some (hs.cel (k := 0) rfl)) (h.over hs.fin) ht)) ?_
  refine at_q rfl rfl (by decide) (qt_not rfl rfl) ?_
  refine at_end ?_
  refine at_cond rfl (fun c1 => ?_) (fun c1 => ?_)
  · try simp only [decide_eq_true_eq, decide_eq_false_iff_not, beq_iff_eq, beq_eq_false_iff_ne, Bool.not_eq_true', Bool.not_eq_false', Bool.not_true, Bool.not_false, Int.not_lt, Int.not_le, ne_eq, Nat.not_lt, Nat.not_le] at c1
    refine at_seq ?_
    refine at_region ?_
    refine at_q rfl rfl (by decide) (qt_assign rfl rfl) ?_
    refine at_end ?_
    refine at_retc ?_
    refine then_ret ?_
    refine at_ret1 rfl (.tmp rfl) ?_
    intro w' hs
    exact ⟨by simp [isnB, c1], hs.fin⟩
  · try simp only [decide_eq_true_eq, decide_eq_false_iff_not, beq_iff_eq, beq_eq_false_iff_ne, Bool.not_eq_true', Bool.not_eq_false', Bool.not_true, Bool.not_false, Int.not_lt, Int.not_le, ne_eq, Nat.not_lt, Nat.not_le] at c1
    have hr : regionB rs = true := by simpa using c1
    have hok := regOk hr
    have hne := allTo_ne rs rs.length
    have hal := allLen hr
    have eB : isnB rs = snapAll (edgesAll rs) := by rw [isnB, hr]; rfl
    change ∀ l ∈ edgesAll rs, lA l ≠ lB l at hne
    refine at_skip ?_
    refine norm_then ?_
    refine at_seq ?_
    refine at_region ?_
    refine at_op rfl ?_
    refine op_call ok_spec_l13All (v := fun x => .slice x.1 _ x.2) (r := fun x => rowR 0 117 4 _ _ x) (H := fun _ => True) rfl rfl rfl (by decide) (fun w1 hs => newRow' ((l13All_any _ _ A n c rs w1 (rd1 (k := 0) rfl rfl w1 hs) (lt_of_some (hs.cel (k := 0) rfl)) (h.over hs.fin) ht).mono fun e w' ⟨v, h1, _, h2, h3⟩ => ⟨v, h1, h2, h3⟩)) ?_
    rintro ⟨eA, ec⟩ -
    refine at_rsE (by simp only [List.nil_append, List.cons_append, List.set_cons_zero, List.set_cons_succ, Value.cells, List.toList_toArray]; rfl) ?_
    refine at_q rfl rfl (by decide) (qt_assign rfl rfl) ?_
    refine at_end ?_
    refine at_seq ?_
    refine at_seq ?_
    obtain ⟨ls, hls⟩ : ∃ ls, edgesAll rs = ls := ⟨_, rfl⟩
    rw [hls] at hok hal eB hne
    rw [hls]
    refine at_region ?_
    refine at_q rfl rfl (by decide) (qt_assign rfl rfl) ?_
    refine at_end ?_
    refine at_block ?_
    refine at_loopc (X := Nat) (fun i => i ≤ ls.length ∧ ∀ q, q < i → ∀ k, k < q → pairL (lg ls q) (lg ls k) = true) (fun i => ls.length - i) (fun i => [(4, .int .i64 (i : Int))]) (C := [(2, _), (3, _)]) ⟨rfl, rfl, trivial⟩ (fun i => [.cel b1 53 [.slice A n c], rowR 0 117 4 ls.length (ls.flatMap legCells) (eA, ec)]) 0 (⟨Nat.zero_le _, fun q hq => absurd hq (by omega)⟩) ⟨rfl, rfl, rfl, trivial⟩ (fun _ h => h) ?_
    intro i hi L hL1
    refine at_envE (by simp only [List.nil_append, List.cons_append]; rfl) ?_
    refine at_rsE (by first | (dsimp only; done) | (dsimp only; rfl) | rfl) ?_
    refine at_seq ?_
    refine at_seq ?_
    refine at_region ?_
    refine at_q rfl rfl (by decide) (qt_move rfl rfl) ?_
    refine at_q rfl rfl (by decide) (qt_move rfl rfl) ?_
    refine at_q rfl rfl (by decide) (qt_len rfl rfl tyl_sl_spec_l13Edge) ?_
    refine at_q rfl rfl (by decide) (qt_lss rfl rfl rfl) ?_
    refine at_end ?_
    refine at_cond rfl (fun c2 => ?_) (fun c2 => ?_)
    · try simp only [decide_eq_true_eq, decide_eq_false_iff_not, beq_iff_eq, beq_eq_false_iff_ne, Bool.not_eq_true', Bool.not_eq_false', Bool.not_true, Bool.not_false, Int.not_lt, Int.not_le, ne_eq, Nat.not_lt, Nat.not_le] at c2
      have hlt : i < ls.length := (by omega)
      refine at_fact (fun w hs => rowSome (k := 1) rfl hs (by omega)) ?_
      rintro ⟨eg, rfl⟩
      refine at_skip ?_
      refine norm_then ?_
      refine at_seq ?_
      refine at_block ?_
      refine at_seq ?_
      refine at_region ?_
      refine at_q rfl rfl (by decide) (qt_assign rfl rfl) ?_
      refine at_end ?_
      refine at_block ?_
      refine at_loopc (X := Nat) (fun k => k ≤ i ∧ ∀ q, q < k → pairL (lg ls i) (lg ls q) = true) (fun k => i - k) (fun k => [(5, .int .i64 (k : Int))]) (C := [(2, _), (3, _), (4, _), (11, _), (12, _), (13, _), (14, _)]) ⟨rfl, rfl, rfl, rfl, rfl, rfl, rfl, trivial⟩ (fun k => [.cel b1 53 [.slice A n c], rowR 0 117 4 ls.length (ls.flatMap legCells) (some ⟨eg, 0, none⟩, ec)]) 0 (⟨Nat.zero_le _, fun q hq => absurd hq (by omega)⟩) ⟨rfl, rfl, rfl, rfl, rfl, rfl, rfl, rfl, trivial⟩ (fun _ h => h) ?_
      intro k hk L hL2
      refine at_envE (by simp only [List.nil_append, List.cons_append]; rfl) ?_
      refine at_rsE (by first | (dsimp only; done) | (dsimp only; rfl) | rfl) ?_
      refine at_seq ?_
      refine at_seq ?_
      refine at_region ?_
      refine at_q rfl rfl (by decide) (qt_move rfl rfl) ?_
      refine at_q rfl rfl (by decide) (qt_move rfl rfl) ?_
      refine at_q rfl rfl (by decide) (qt_lss rfl rfl rfl) ?_
      refine at_end ?_
      refine at_cond rfl (fun c3 => ?_) (fun c3 => ?_)
      · try simp only [decide_eq_true_eq, decide_eq_false_iff_not, beq_iff_eq, beq_eq_false_iff_ne, Bool.not_eq_true', Bool.not_eq_false', Bool.not_true, Bool.not_false, Int.not_lt, Int.not_le, ne_eq, Nat.not_lt, Nat.not_le] at c3
        have hkt : k < i := (by omega)
        have hkl : k < ls.length := (by omega)
        have epl := psL_pairL (lg_ok hok hlt) (lg_ok hok hkl) (lg_ne hne hlt) (lg_ne hne hkl)
        refine at_skip ?_
        refine norm_then ?_
        refine at_seq ?_
        refine at_block ?_
        refine at_seq ?_
        refine at_region ?_
        refine at_q rfl rfl (by decide) (qt_move rfl rfl) ?_
        refine at_q rfl rfl (by decide) (qt_move rfl rfl) ?_
        refine at_q rfl rfl (by decide) (qt_index rfl rfl rfl tyl_sl_spec_l13Edge (by omega)) ?_
        refine at_q rfl rfl (by decide) (qt_assign rfl rfl) ?_
        refine at_end ?_
        refine at_seq ?_
        refine at_region ?_
        refine at_q rfl rfl (by decide) (qt_move rfl rfl) ?_
        refine at_q rfl rfl (by decide) (qt_move rfl rfl) ?_
        refine at_q rfl rfl (by decide) (qt_index rfl rfl rfl tyl_sl_spec_l13Edge (by omega)) ?_
        refine at_q rfl rfl (by decide) (qt_assign rfl rfl) ?_
        refine at_end ?_
        refine at_seq ?_
        refine at_seq ?_
        refine at_region ?_
        refine at_q rfl rfl (by decide) (qt_move rfl rfl) ?_
        refine at_q rfl rfl (by decide) (qt_move rfl rfl) ?_
        refine at_q rfl rfl (by decide) (qt_call ok_spec_l13Apart rfl rfl (fun w1 hs => l13Apart_any eg _ eg _ (lg ls i) (lg ls k) w1 (rdLeg (fun w' hs => rowLegs (k := 1) rfl rfl w' hs) hlt w1 hs) (rdLeg (fun w' hs => rowLegs (k := 1) rfl rfl w' hs) hkl w1 hs) (rowLt (k := 1) rfl hs (by omega)) (rowLt (k := 1) rfl hs (by omega)))) ?_
        refine at_end ?_
        refine at_cond rfl (fun c4 => ?_) (fun c4 => ?_)
        · try simp only [decide_eq_true_eq, decide_eq_false_iff_not, beq_iff_eq, beq_eq_false_iff_ne, Bool.not_eq_true', Bool.not_eq_false', Bool.not_true, Bool.not_false, Int.not_lt, Int.not_le, ne_eq, Nat.not_lt, Nat.not_le] at c4
          refine at_exit ?_
          refine pass_then (fun h => by cases h) ?_
          refine pass_hit ?_
          refine norm_then ?_
          refine at_region ?_
          refine at_q rfl rfl (by decide) (qt_move rfl rfl) ?_
          refine at_q rfl rfl (by decide) (qt_add rfl rfl rfl (by omega) (by omega)) ?_
          refine at_q rfl rfl (by decide) (qt_assign rfl rfl) ?_
          refine at_end ?_
          exact at_againc hL2 (k + 1) (⟨by omega, lt_succ_all hk.2 (by rw [← epl]; exact ps_apart c4)⟩) (by omega) ⟨vi (by omega), rfl, rfl, rfl, rfl, rfl, rfl, rfl, trivial⟩ (fun _ h => h.upto ⟨rfl, rfl, trivial⟩)
        · try simp only [decide_eq_true_eq, decide_eq_false_iff_not, beq_iff_eq, beq_eq_false_iff_ne, Bool.not_eq_true', Bool.not_eq_false', Bool.not_true, Bool.not_false, Int.not_lt, Int.not_le, ne_eq, Nat.not_lt, Nat.not_le] at c4
          refine at_skip ?_
          refine norm_then ?_
          refine at_seq ?_
          refine dg_start mixed rfl ?_
          refine dg_phase 17 ?_
          refine dg_q (i := 0) rfl (by kernel_rfl) (by kernel_rfl) (by kernel_rfl) [] (by kernel_rfl) (fun _ _ _ h => h) rfl rfl (by decide) (fun _ h => h.upto ⟨rfl, rfl, trivial⟩) (qt_move rfl rfl) ?_
          refine dg_q (i := 1) rfl (by kernel_rfl) (by kernel_rfl) (by kernel_rfl) [] (by kernel_rfl) (fun _ _ _ h => h) rfl rfl (by decide) (fun _ h => h.upto ⟨rfl, rfl, trivial⟩) (qt_nilCheck rfl rfl) ?_
          refine dg_q (i := 2) rfl (by kernel_rfl) (by kernel_rfl) (by kernel_rfl) [] (by kernel_rfl) (fun _ _ _ h => h) rfl rfl (by decide) (fun _ h => h.upto ⟨rfl, rfl, trivial⟩) (qt_fieldAddr rfl rfl tyf_spec_l13Edge_0) ?_
          refine dg_q (i := 3) rfl (by kernel_rfl) (by kernel_rfl) (by kernel_rfl) [] (by kernel_rfl) (fun _ _ _ h => h) rfl rfl (by decide) (fun _ h => h.upto ⟨rfl, rfl, trivial⟩) (qt_loadS rfl rfl tys_impl_Pt rfl (by first | exact rdLegA (b := eg) (o := 0) (j := i) (fun w' hs => rowLegs (k := 1) rfl rfl w' hs) hlt | exact rdLegB (b := eg) (o := 0) (j := i) (fun w' hs => rowLegs (k := 1) rfl rfl w' hs) hlt | exact rdLegA (b := eg) (o := 0) (j := k) (fun w' hs => rowLegs (k := 1) rfl rfl w' hs) hkl | exact rdLegB (b := eg) (o := 0) (j := k) (fun w' hs => rowLegs (k := 1) rfl rfl w' hs) hkl)) ?_
          refine dg_q (i := 4) rfl (by kernel_rfl) (by kernel_rfl) (by kernel_rfl) [] (by kernel_rfl) (fun _ _ _ h => h) rfl rfl (by decide) (fun _ h => h.upto ⟨rfl, rfl, trivial⟩) (qt_move rfl rfl) ?_
          refine dg_q (i := 5) rfl (by kernel_rfl) (by kernel_rfl) (by kernel_rfl) [] (by kernel_rfl) (fun _ _ _ h => h) rfl rfl (by decide) (fun _ h => h.upto ⟨rfl, rfl, trivial⟩) (qt_nilCheck rfl rfl) ?_
          refine dg_q (i := 6) rfl (by kernel_rfl) (by kernel_rfl) (by kernel_rfl) [] (by kernel_rfl) (fun _ _ _ h => h) rfl rfl (by decide) (fun _ h => h.upto ⟨rfl, rfl, trivial⟩) (qt_fieldAddr rfl rfl tyf_spec_l13Edge_1) ?_
          refine dg_q (i := 7) rfl (by kernel_rfl) (by kernel_rfl) (by kernel_rfl) [] (by kernel_rfl) (fun _ _ _ h => h) rfl rfl (by decide) (fun _ h => h.upto ⟨rfl, rfl, trivial⟩) (qt_loadS rfl rfl tys_impl_Pt rfl (by first | exact rdLegA (b := eg) (o := 0) (j := i) (fun w' hs => rowLegs (k := 1) rfl rfl w' hs) hlt | exact rdLegB (b := eg) (o := 0) (j := i) (fun w' hs => rowLegs (k := 1) rfl rfl w' hs) hlt | exact rdLegA (b := eg) (o := 0) (j := k) (fun w' hs => rowLegs (k := 1) rfl rfl w' hs) hkl | exact rdLegB (b := eg) (o := 0) (j := k) (fun w' hs => rowLegs (k := 1) rfl rfl w' hs) hkl)) ?_
          refine dg_q (i := 8) rfl (by kernel_rfl) (by kernel_rfl) (by kernel_rfl) [] (by kernel_rfl) (fun _ _ _ h => h) rfl rfl (by decide) (fun _ h => h.upto ⟨rfl, rfl, trivial⟩) (qt_move rfl rfl) ?_
          refine dg_q (i := 9) rfl (by kernel_rfl) (by kernel_rfl) (by kernel_rfl) [] (by kernel_rfl) (fun _ _ _ h => h) rfl rfl (by decide) (fun _ h => h.upto ⟨rfl, rfl, trivial⟩) (qt_nilCheck rfl rfl) ?_
          refine dg_q (i := 10) rfl (by kernel_rfl) (by kernel_rfl) (by kernel_rfl) [] (by kernel_rfl) (fun _ _ _ h => h) rfl rfl (by decide) (fun _ h => h.upto ⟨rfl, rfl, trivial⟩) (qt_fieldAddr rfl rfl tyf_spec_l13Edge_0) ?_
          refine dg_q (i := 11) rfl (by kernel_rfl) (by kernel_rfl) (by kernel_rfl) [] (by kernel_rfl) (fun _ _ _ h => h) rfl rfl (by decide) (fun _ h => h.upto ⟨rfl, rfl, trivial⟩) (qt_loadS rfl rfl tys_impl_Pt rfl (by first | exact rdLegA (b := eg) (o := 0) (j := i) (fun w' hs => rowLegs (k := 1) rfl rfl w' hs) hlt | exact rdLegB (b := eg) (o := 0) (j := i) (fun w' hs => rowLegs (k := 1) rfl rfl w' hs) hlt | exact rdLegA (b := eg) (o := 0) (j := k) (fun w' hs => rowLegs (k := 1) rfl rfl w' hs) hkl | exact rdLegB (b := eg) (o := 0) (j := k) (fun w' hs => rowLegs (k := 1) rfl rfl w' hs) hkl)) ?_
          refine dg_q (i := 12) rfl (by kernel_rfl) (by kernel_rfl) (by kernel_rfl) [] (by kernel_rfl) (fun _ _ _ h => h) rfl rfl (by decide) (fun _ h => h.upto ⟨rfl, rfl, trivial⟩) (qt_move rfl rfl) ?_
          refine dg_q (i := 13) rfl (by kernel_rfl) (by kernel_rfl) (by kernel_rfl) [] (by kernel_rfl) (fun _ _ _ h => h) rfl rfl (by decide) (fun _ h => h.upto ⟨rfl, rfl, trivial⟩) (qt_nilCheck rfl rfl) ?_
          refine dg_q (i := 14) rfl (by kernel_rfl) (by kernel_rfl) (by kernel_rfl) [] (by kernel_rfl) (fun _ _ _ h => h) rfl rfl (by decide) (fun _ h => h.upto ⟨rfl, rfl, trivial⟩) (qt_fieldAddr rfl rfl tyf_spec_l13Edge_1) ?_
          refine dg_q (i := 15) rfl (by kernel_rfl) (by kernel_rfl) (by kernel_rfl) [] (by kernel_rfl) (fun _ _ _ h => h) rfl rfl (by decide) (fun _ h => h.upto ⟨rfl, rfl, trivial⟩) (qt_loadS rfl rfl tys_impl_Pt rfl (by first | exact rdLegA (b := eg) (o := 0) (j := i) (fun w' hs => rowLegs (k := 1) rfl rfl w' hs) hlt | exact rdLegB (b := eg) (o := 0) (j := i) (fun w' hs => rowLegs (k := 1) rfl rfl w' hs) hlt | exact rdLegA (b := eg) (o := 0) (j := k) (fun w' hs => rowLegs (k := 1) rfl rfl w' hs) hkl | exact rdLegB (b := eg) (o := 0) (j := k) (fun w' hs => rowLegs (k := 1) rfl rfl w' hs) hkl)) ?_
          refine dg_q (i := 16) rfl (by kernel_rfl) (by kernel_rfl) (by kernel_rfl) [] (by kernel_rfl) (fun _ _ _ h => h) rfl rfl (by decide) (fun _ h => h.upto ⟨rfl, rfl, trivial⟩) (qt_call ok_spec_l03Meeting rfl rfl (fun w1 hs => l03Meeting_any (lA (lg ls i)) (lB (lg ls i)) (lA (lg ls k)) (lB (lg ls k)) w1 (lA_ok (lg_ok hok hlt)) (lB_ok (lg_ok hok hlt)) (lA_ok (lg_ok hok hkl)) (lB_ok (lg_ok hok hkl)))) ?_
          refine dg_done (by kernel_rfl) ?_
          refine norm_then ?_
          refine at_block ?_
          refine at_seq ?_
          refine at_region ?_
          refine at_q rfl rfl (by decide) (qt_eql rfl rfl rfl) ?_
          refine at_q rfl rfl (by decide) (qt_assign rfl rfl) ?_
          refine at_end ?_
          refine at_cond rfl (fun c5 => ?_) (fun c5 => ?_)
          · try simp only [decide_eq_true_eq, decide_eq_false_iff_not, beq_iff_eq, beq_eq_false_iff_ne, Bool.not_eq_true', Bool.not_eq_false', Bool.not_true, Bool.not_false, Int.not_lt, Int.not_le, ne_eq, Nat.not_lt, Nat.not_le] at c5
            refine at_seq ?_
            refine at_region ?_
            refine at_q rfl rfl (by decide) (qt_assign rfl rfl) ?_
            refine at_end ?_
            refine at_retc ?_
            refine pass_ret ?_
            refine pass_ret ?_
            refine then_ret ?_
            refine then_ret ?_
            refine pass_ret ?_
            refine pass_ret ?_
            refine then_ret ?_
            refine then_ret ?_
            refine pass_ret ?_
            refine then_ret ?_
            refine at_ret1 rfl (.tmp rfl) ?_
            intro w' hs
            exact ⟨retB (by rw [eB]; exact snapAll_no hlt hkt (by rw [← epl]; exact ps_cross c4 c5)), hs.fin⟩
          · try simp only [decide_eq_true_eq, decide_eq_false_iff_not, beq_iff_eq, beq_eq_false_iff_ne, Bool.not_eq_true', Bool.not_eq_false', Bool.not_true, Bool.not_false, Int.not_lt, Int.not_le, ne_eq, Nat.not_lt, Nat.not_le] at c5
            refine at_seq ?_
            refine at_region ?_
            refine at_q rfl rfl (by decide) (qt_eql rfl rfl rfl) ?_
            refine at_q rfl rfl (by decide) (qt_assign rfl rfl) ?_
            refine at_end ?_
            refine at_cond rfl (fun c6 => ?_) (fun c6 => ?_)
            · try simp only [decide_eq_true_eq, decide_eq_false_iff_not, beq_iff_eq, beq_eq_false_iff_ne, Bool.not_eq_true', Bool.not_eq_false', Bool.not_true, Bool.not_false, Int.not_lt, Int.not_le, ne_eq, Nat.not_lt, Nat.not_le] at c6
              refine at_cutE [(93, .bool (touchNo (lg ls i) (lg ls k)))] (C := [(2, _), (3, _), (4, _), (11, _), (12, _), (13, _), (14, _), (5, _), (17, _), (18, _), (19, _), (22, _), (23, _), (24, _), (6, _), (25, _), (26, _), (27, _), (7, _), (28, _), (29, _), (30, _), (31, _), (32, _), (33, _), (34, _), (35, _), (36, _), (37, _), (38, _), (39, _), (40, _), (41, _), (42, _), (43, _), (44, _), (45, _), (46, _), (47, _), (49, _), (48, _), (51, _), (50, _)])  ⟨rfl, rfl, rfl, rfl, rfl, rfl, rfl, rfl, rfl, rfl, rfl, rfl, rfl, rfl, rfl, rfl, rfl, rfl, rfl, rfl, rfl, rfl, rfl, rfl, rfl, rfl, rfl, rfl, rfl, rfl, rfl, rfl, rfl, rfl, rfl, rfl, rfl, rfl, rfl, rfl, rfl, rfl, rfl, trivial⟩ (fun L hC_cut_17 => ?_) ?_
              · refine lx_start mixed (by kernel_rfl) (fun _ _ d _ _ h => by cases d <;> exact h) ?_
                refine lx_q rfl rfl (by decide) (qt_move rfl rfl) ?_
                refine lx_q rfl rfl (by decide) (qt_nilCheck rfl rfl) ?_
                refine lx_q rfl rfl (by decide) (qt_fieldAddr rfl rfl tyf_spec_l13Edge_0) ?_
                refine lx_q rfl rfl (by decide) (qt_loadS rfl rfl tys_impl_Pt rfl (by first | exact rdLegA (b := eg) (o := 0) (j := i) (fun w' hs => rowLegs (k := 1) rfl rfl w' hs) hlt | exact rdLegB (b := eg) (o := 0) (j := i) (fun w' hs => rowLegs (k := 1) rfl rfl w' hs) hlt | exact rdLegA (b := eg) (o := 0) (j := k) (fun w' hs => rowLegs (k := 1) rfl rfl w' hs) hkl | exact rdLegB (b := eg) (o := 0) (j := k) (fun w' hs => rowLegs (k := 1) rfl rfl w' hs) hkl)) ?_
                refine lx_q rfl rfl (by decide) (qt_move rfl rfl) ?_
                refine lx_q rfl rfl (by decide) (qt_nilCheck rfl rfl) ?_
                refine lx_q rfl rfl (by decide) (qt_fieldAddr rfl rfl tyf_spec_l13Edge_0) ?_
                refine lx_q rfl rfl (by decide) (qt_loadS rfl rfl tys_impl_Pt rfl (by first | exact rdLegA (b := eg) (o := 0) (j := i) (fun w' hs => rowLegs (k := 1) rfl rfl w' hs) hlt | exact rdLegB (b := eg) (o := 0) (j := i) (fun w' hs => rowLegs (k := 1) rfl rfl w' hs) hlt | exact rdLegA (b := eg) (o := 0) (j := k) (fun w' hs => rowLegs (k := 1) rfl rfl w' hs) hkl | exact rdLegB (b := eg) (o := 0) (j := k) (fun w' hs => rowLegs (k := 1) rfl rfl w' hs) hkl)) ?_
                refine lx_q rfl rfl (by decide) (qt_neqS_impl_Pt rfl rfl rfl) ?_
                refine lx_q rfl rfl (by decide) (qt_move rfl rfl) ?_
                refine lx_bsplit 61 rfl (fun g1 => ?_) (fun g1 => ?_)
                · try simp only [decide_eq_true_eq, decide_eq_false_iff_not, beq_iff_eq, beq_eq_false_iff_ne, Bool.not_eq_true', Bool.not_eq_false', Bool.not_true, Bool.not_false, Int.not_lt, Int.not_le, ne_eq, Nat.not_lt, Nat.not_le] at g1
                  refine lx_qg rfl rfl rfl rfl rfl (by decide) (qt_move rfl rfl) ?_
                  refine lx_qg rfl rfl rfl rfl rfl (by decide) (qt_nilCheck rfl rfl) ?_
                  refine lx_qg rfl rfl rfl rfl rfl (by decide) (qt_fieldAddr rfl rfl tyf_spec_l13Edge_0) ?_
                  refine lx_qg rfl rfl rfl rfl rfl (by decide) (qt_loadS rfl rfl tys_impl_Pt rfl (by first | exact rdLegA (b := eg) (o := 0) (j := i) (fun w' hs => rowLegs (k := 1) rfl rfl w' hs) hlt | exact rdLegB (b := eg) (o := 0) (j := i) (fun w' hs => rowLegs (k := 1) rfl rfl w' hs) hlt | exact rdLegA (b := eg) (o := 0) (j := k) (fun w' hs => rowLegs (k := 1) rfl rfl w' hs) hkl | exact rdLegB (b := eg) (o := 0) (j := k) (fun w' hs => rowLegs (k := 1) rfl rfl w' hs) hkl)) ?_
                  refine lx_qg rfl rfl rfl rfl rfl (by decide) (qt_move rfl rfl) ?_
                  refine lx_qg rfl rfl rfl rfl rfl (by decide) (qt_nilCheck rfl rfl) ?_
                  refine lx_qg rfl rfl rfl rfl rfl (by decide) (qt_fieldAddr rfl rfl tyf_spec_l13Edge_1) ?_
                  refine lx_qg rfl rfl rfl rfl rfl (by decide) (qt_loadS rfl rfl tys_impl_Pt rfl (by first | exact rdLegA (b := eg) (o := 0) (j := i) (fun w' hs => rowLegs (k := 1) rfl rfl w' hs) hlt | exact rdLegB (b := eg) (o := 0) (j := i) (fun w' hs => rowLegs (k := 1) rfl rfl w' hs) hlt | exact rdLegA (b := eg) (o := 0) (j := k) (fun w' hs => rowLegs (k := 1) rfl rfl w' hs) hkl | exact rdLegB (b := eg) (o := 0) (j := k) (fun w' hs => rowLegs (k := 1) rfl rfl w' hs) hkl)) ?_
                  refine lx_qg rfl rfl rfl rfl rfl (by decide) (qt_neqS_impl_Pt rfl rfl rfl) ?_
                  refine lx_q rfl rfl (by decide) (qt_pickT rfl rfl rfl) ?_
                  refine lx_q rfl rfl (by decide) (qt_move rfl rfl) ?_
                  refine lx_bsplit 72 rfl (fun g2 => ?_) (fun g2 => ?_)
                  · try simp only [decide_eq_true_eq, decide_eq_false_iff_not, beq_iff_eq, beq_eq_false_iff_ne, Bool.not_eq_true', Bool.not_eq_false', Bool.not_true, Bool.not_false, Int.not_lt, Int.not_le, ne_eq, Nat.not_lt, Nat.not_le] at g2
                    refine lx_qg rfl rfl rfl rfl rfl (by decide) (qt_move rfl rfl) ?_
                    refine lx_qg rfl rfl rfl rfl rfl (by decide) (qt_nilCheck rfl rfl) ?_
                    refine lx_qg rfl rfl rfl rfl rfl (by decide) (qt_fieldAddr rfl rfl tyf_spec_l13Edge_1) ?_
                    refine lx_qg rfl rfl rfl rfl rfl (by decide) (qt_loadS rfl rfl tys_impl_Pt rfl (by first | exact rdLegA (b := eg) (o := 0) (j := i) (fun w' hs => rowLegs (k := 1) rfl rfl w' hs) hlt | exact rdLegB (b := eg) (o := 0) (j := i) (fun w' hs => rowLegs (k := 1) rfl rfl w' hs) hlt | exact rdLegA (b := eg) (o := 0) (j := k) (fun w' hs => rowLegs (k := 1) rfl rfl w' hs) hkl | exact rdLegB (b := eg) (o := 0) (j := k) (fun w' hs => rowLegs (k := 1) rfl rfl w' hs) hkl)) ?_
                    refine lx_qg rfl rfl rfl rfl rfl (by decide) (qt_move rfl rfl) ?_
                    refine lx_qg rfl rfl rfl rfl rfl (by decide) (qt_nilCheck rfl rfl) ?_
                    refine lx_qg rfl rfl rfl rfl rfl (by decide) (qt_fieldAddr rfl rfl tyf_spec_l13Edge_0) ?_
                    refine lx_qg rfl rfl rfl rfl rfl (by decide) (qt_loadS rfl rfl tys_impl_Pt rfl (by first | exact rdLegA (b := eg) (o := 0) (j := i) (fun w' hs => rowLegs (k := 1) rfl rfl w' hs) hlt | exact rdLegB (b := eg) (o := 0) (j := i) (fun w' hs => rowLegs (k := 1) rfl rfl w' hs) hlt | exact rdLegA (b := eg) (o := 0) (j := k) (fun w' hs => rowLegs (k := 1) rfl rfl w' hs) hkl | exact rdLegB (b := eg) (o := 0) (j := k) (fun w' hs => rowLegs (k := 1) rfl rfl w' hs) hkl)) ?_
                    refine lx_qg rfl rfl rfl rfl rfl (by decide) (qt_neqS_impl_Pt rfl rfl rfl) ?_
                    refine lx_q rfl rfl (by decide) (qt_pickT rfl rfl rfl) ?_
                    refine lx_q rfl rfl (by decide) (qt_move rfl rfl) ?_
                    refine lx_bsplit 83 rfl (fun g3 => ?_) (fun g3 => ?_)
                    · try simp only [decide_eq_true_eq, decide_eq_false_iff_not, beq_iff_eq, beq_eq_false_iff_ne, Bool.not_eq_true', Bool.not_eq_false', Bool.not_true, Bool.not_false, Int.not_lt, Int.not_le, ne_eq, Nat.not_lt, Nat.not_le] at g3
                      refine lx_qg rfl rfl rfl rfl rfl (by decide) (qt_move rfl rfl) ?_
                      refine lx_qg rfl rfl rfl rfl rfl (by decide) (qt_nilCheck rfl rfl) ?_
                      refine lx_qg rfl rfl rfl rfl rfl (by decide) (qt_fieldAddr rfl rfl tyf_spec_l13Edge_1) ?_
                      refine lx_qg rfl rfl rfl rfl rfl (by decide) (qt_loadS rfl rfl tys_impl_Pt rfl (by first | exact rdLegA (b := eg) (o := 0) (j := i) (fun w' hs => rowLegs (k := 1) rfl rfl w' hs) hlt | exact rdLegB (b := eg) (o := 0) (j := i) (fun w' hs => rowLegs (k := 1) rfl rfl w' hs) hlt | exact rdLegA (b := eg) (o := 0) (j := k) (fun w' hs => rowLegs (k := 1) rfl rfl w' hs) hkl | exact rdLegB (b := eg) (o := 0) (j := k) (fun w' hs => rowLegs (k := 1) rfl rfl w' hs) hkl)) ?_
                      refine lx_qg rfl rfl rfl rfl rfl (by decide) (qt_move rfl rfl) ?_
                      refine lx_qg rfl rfl rfl rfl rfl (by decide) (qt_nilCheck rfl rfl) ?_
                      refine lx_qg rfl rfl rfl rfl rfl (by decide) (qt_fieldAddr rfl rfl tyf_spec_l13Edge_1) ?_
                      refine lx_qg rfl rfl rfl rfl rfl (by decide) (qt_loadS rfl rfl tys_impl_Pt rfl (by first | exact rdLegA (b := eg) (o := 0) (j := i) (fun w' hs => rowLegs (k := 1) rfl rfl w' hs) hlt | exact rdLegB (b := eg) (o := 0) (j := i) (fun w' hs => rowLegs (k := 1) rfl rfl w' hs) hlt | exact rdLegA (b := eg) (o := 0) (j := k) (fun w' hs => rowLegs (k := 1) rfl rfl w' hs) hkl | exact rdLegB (b := eg) (o := 0) (j := k) (fun w' hs => rowLegs (k := 1) rfl rfl w' hs) hkl)) ?_
                      refine lx_qg rfl rfl rfl rfl rfl (by decide) (qt_neqS_impl_Pt rfl rfl rfl) ?_
                      refine lx_q rfl rfl (by decide) (qt_pickT rfl rfl rfl) ?_
                      refine lx_end ?_
                      refine norm_then ?_
                      exact at_meet hC_cut_17 ⟨vb (by simp only [touchNo, *, Bool.not_true, Bool.not_false, Bool.true_and, Bool.false_and, Bool.and_false, Bool.and_true]), rfl, rfl, rfl, rfl, rfl, rfl, rfl, rfl, rfl, rfl, rfl, rfl, rfl, rfl, rfl, rfl, rfl, rfl, rfl, rfl, rfl, rfl, rfl, rfl, rfl, rfl, rfl, rfl, rfl, rfl, rfl, rfl, rfl, rfl, rfl, rfl, rfl, rfl, rfl, rfl, rfl, rfl, rfl, trivial⟩ (fun _ h => h.upto ⟨rfl, rfl, trivial⟩)
                    · try simp only [decide_eq_true_eq, decide_eq_false_iff_not, beq_iff_eq, beq_eq_false_iff_ne, Bool.not_eq_true', Bool.not_eq_false', Bool.not_true, Bool.not_false, Int.not_lt, Int.not_le, ne_eq, Nat.not_lt, Nat.not_le] at g3
                      refine lx_off rfl rfl rfl rfl (by decide) rfl (by decide) ?_
                      refine lx_off rfl rfl rfl rfl (by decide) rfl (by decide) ?_
                      refine lx_off rfl rfl rfl rfl (by decide) rfl (by decide) ?_
                      refine lx_off rfl rfl rfl rfl (by decide) rfl (by decide) ?_
                      refine lx_off rfl rfl rfl rfl (by decide) rfl (by decide) ?_
                      refine lx_off rfl rfl rfl rfl (by decide) rfl (by decide) ?_
                      refine lx_off rfl rfl rfl rfl (by decide) rfl (by decide) ?_
                      refine lx_off rfl rfl rfl rfl (by decide) rfl (by decide) ?_
                      refine lx_off rfl rfl rfl rfl (by decide) rfl (by decide) ?_
                      refine lx_q rfl rfl (by decide) (qt_pickF rfl rfl rfl) ?_
                      refine lx_end ?_
                      refine norm_then ?_
                      exact at_meet hC_cut_17 ⟨vb (by simp only [touchNo, *, Bool.not_true, Bool.not_false, Bool.true_and, Bool.false_and, Bool.and_false, Bool.and_true]), rfl, rfl, rfl, rfl, rfl, rfl, rfl, rfl, rfl, rfl, rfl, rfl, rfl, rfl, rfl, rfl, rfl, rfl, rfl, rfl, rfl, rfl, rfl, rfl, rfl, rfl, rfl, rfl, rfl, rfl, rfl, rfl, rfl, rfl, rfl, rfl, rfl, rfl, rfl, rfl, rfl, rfl, rfl, trivial⟩ (fun _ h => h.upto ⟨rfl, rfl, trivial⟩)
                  · try simp only [decide_eq_true_eq, decide_eq_false_iff_not, beq_iff_eq, beq_eq_false_iff_ne, Bool.not_eq_true', Bool.not_eq_false', Bool.not_true, Bool.not_false, Int.not_lt, Int.not_le, ne_eq, Nat.not_lt, Nat.not_le] at g2
                    refine lx_off rfl rfl rfl rfl (by decide) rfl (by decide) ?_
                    refine lx_off rfl rfl rfl rfl (by decide) rfl (by decide) ?_
                    refine lx_off rfl rfl rfl rfl (by decide) rfl (by decide) ?_
                    refine lx_off rfl rfl rfl rfl (by decide) rfl (by decide) ?_
                    refine lx_off rfl rfl rfl rfl (by decide) rfl (by decide) ?_
                    refine lx_off rfl rfl rfl rfl (by decide) rfl (by decide) ?_
                    refine lx_off rfl rfl rfl rfl (by decide) rfl (by decide) ?_
                    refine lx_off rfl rfl rfl rfl (by decide) rfl (by decide) ?_
                    refine lx_off rfl rfl rfl rfl (by decide) rfl (by decide) ?_
                    refine lx_q rfl rfl (by decide) (qt_pickF rfl rfl rfl) ?_
                    refine lx_q rfl rfl (by decide) (qt_move rfl rfl) ?_
                    refine lx_off rfl rfl rfl rfl (by decide) rfl (by decide) ?_
                    refine lx_off rfl rfl rfl rfl (by decide) rfl (by decide) ?_
                    refine lx_off rfl rfl rfl rfl (by decide) rfl (by decide) ?_
                    refine lx_off rfl rfl rfl rfl (by decide) rfl (by decide) ?_
                    refine lx_off rfl rfl rfl rfl (by decide) rfl (by decide) ?_
                    refine lx_off rfl rfl rfl rfl (by decide) rfl (by decide) ?_
                    refine lx_off rfl rfl rfl rfl (by decide) rfl (by decide) ?_
                    refine lx_off rfl rfl rfl rfl (by decide) rfl (by decide) ?_
                    refine lx_off rfl rfl rfl rfl (by decide) rfl (by decide) ?_
                    refine lx_q rfl rfl (by decide) (qt_pickF rfl rfl rfl) ?_
                    refine lx_end ?_
                    refine norm_then ?_
                    exact at_meet hC_cut_17 ⟨vb (by simp only [touchNo, *, Bool.not_true, Bool.not_false, Bool.true_and, Bool.false_and, Bool.and_false, Bool.and_true]), rfl, rfl, rfl, rfl, rfl, rfl, rfl, rfl, rfl, rfl, rfl, rfl, rfl, rfl, rfl, rfl, rfl, rfl, rfl, rfl, rfl, rfl, rfl, rfl, rfl, rfl, rfl, rfl, rfl, rfl, rfl, rfl, rfl, rfl, rfl, rfl, rfl, rfl, rfl, rfl, rfl, rfl, rfl, trivial⟩ (fun _ h => h.upto ⟨rfl, rfl, trivial⟩)
                · try simp only [decide_eq_true_eq, decide_eq_false_iff_not, beq_iff_eq, beq_eq_false_iff_ne, Bool.not_eq_true', Bool.not_eq_false', Bool.not_true, Bool.not_false, Int.not_lt, Int.not_le, ne_eq, Nat.not_lt, Nat.not_le] at g1
                  refine lx_off rfl rfl rfl rfl (by decide) rfl (by decide) ?_
                  refine lx_off rfl rfl rfl rfl (by decide) rfl (by decide) ?_
                  refine lx_off rfl rfl rfl rfl (by decide) rfl (by decide) ?_
                  refine lx_off rfl rfl rfl rfl (by decide) rfl (by decide) ?_
                  refine lx_off rfl rfl rfl rfl (by decide) rfl (by decide) ?_
                  refine lx_off rfl rfl rfl rfl (by decide) rfl (by decide) ?_
                  refine lx_off rfl rfl rfl rfl (by decide) rfl (by decide) ?_
                  refine lx_off rfl rfl rfl rfl (by decide) rfl (by decide) ?_
                  refine lx_off rfl rfl rfl rfl (by decide) rfl (by decide) ?_
                  refine lx_q rfl rfl (by decide) (qt_pickF rfl rfl rfl) ?_
                  refine lx_q rfl rfl (by decide) (qt_move rfl rfl) ?_
                  refine lx_off rfl rfl rfl rfl (by decide) rfl (by decide) ?_
                  refine lx_off rfl rfl rfl rfl (by decide) rfl (by decide) ?_
                  refine lx_off rfl rfl rfl rfl (by decide) rfl (by decide) ?_
                  refine lx_off rfl rfl rfl rfl (by decide) rfl (by decide) ?_
                  refine lx_off rfl rfl rfl rfl (by decide) rfl (by decide) ?_
                  refine lx_off rfl rfl rfl rfl (by decide) rfl (by decide) ?_
                  refine lx_off rfl rfl rfl rfl (by decide) rfl (by decide) ?_
                  refine lx_off rfl rfl rfl rfl (by decide) rfl (by decide) ?_
                  refine lx_off rfl rfl rfl rfl (by decide) rfl (by decide) ?_
                  refine lx_q rfl rfl (by decide) (qt_pickF rfl rfl rfl) ?_
                  refine lx_q rfl rfl (by decide) (qt_move rfl rfl) ?_
                  refine lx_off rfl rfl rfl rfl (by decide) rfl (by decide) ?_
                  refine lx_off rfl rfl rfl rfl (by decide) rfl (by decide) ?_
                  refine lx_off rfl rfl rfl rfl (by decide) rfl (by decide) ?_
                  refine lx_off rfl rfl rfl rfl (by decide) rfl (by decide) ?_
                  refine lx_off rfl rfl rfl rfl (by decide) rfl (by decide) ?_
                  refine lx_off rfl rfl rfl rfl (by decide) rfl (by decide) ?_
                  refine lx_off rfl rfl rfl rfl (by decide) rfl (by decide) ?_
                  refine lx_off rfl rfl rfl rfl (by decide) rfl (by decide) ?_
                  refine lx_off rfl rfl rfl rfl (by decide) rfl (by decide) ?_
                  refine lx_q rfl rfl (by decide) (qt_pickF rfl rfl rfl) ?_
                  refine lx_end ?_
                  refine norm_then ?_
                  exact at_meet hC_cut_17 ⟨vb (by simp only [touchNo, *, Bool.not_true, Bool.not_false, Bool.true_and, Bool.false_and, Bool.and_false, Bool.and_true]), rfl, rfl, rfl, rfl, rfl, rfl, rfl, rfl, rfl, rfl, rfl, rfl, rfl, rfl, rfl, rfl, rfl, rfl, rfl, rfl, rfl, rfl, rfl, rfl, rfl, rfl, rfl, rfl, rfl, rfl, rfl, rfl, rfl, rfl, rfl, rfl, rfl, rfl, rfl, rfl, rfl, rfl, rfl, trivial⟩ (fun _ h => h.upto ⟨rfl, rfl, trivial⟩)
              · refine at_envE (by simp only [List.nil_append, List.cons_append]; rfl) ?_
                refine at_cond rfl (fun c7 => ?_) (fun c7 => ?_)
                · try simp only [decide_eq_true_eq, decide_eq_false_iff_not, beq_iff_eq, beq_eq_false_iff_ne, Bool.not_eq_true', Bool.not_eq_false', Bool.not_true, Bool.not_false, Int.not_lt, Int.not_le, ne_eq, Nat.not_lt, Nat.not_le] at c7
                  refine at_seq ?_
                  refine at_region ?_
                  refine at_q rfl rfl (by decide) (qt_assign rfl rfl) ?_
                  refine at_end ?_
                  refine at_retc ?_
                  refine pass_ret ?_
                  refine pass_ret ?_
                  refine then_ret ?_
                  refine then_ret ?_
                  refine pass_ret ?_
                  refine pass_ret ?_
                  refine then_ret ?_
                  refine then_ret ?_
                  refine pass_ret ?_
                  refine then_ret ?_
                  refine at_ret1 rfl (.tmp rfl) ?_
                  intro w' hs
                  exact ⟨retB (by rw [eB]; exact snapAll_no hlt hkt (by rw [← epl, ps_touch c4 c6, c7]; rfl)), hs.fin⟩
                · try simp only [decide_eq_true_eq, decide_eq_false_iff_not, beq_iff_eq, beq_eq_false_iff_ne, Bool.not_eq_true', Bool.not_eq_false', Bool.not_true, Bool.not_false, Int.not_lt, Int.not_le, ne_eq, Nat.not_lt, Nat.not_le] at c7
                  refine at_skip ?_
                  refine norm_block ?_
                  refine norm_block ?_
                  refine norm_then ?_
                  refine at_region ?_
                  refine at_q rfl rfl (by decide) (qt_move rfl rfl) ?_
                  refine at_q rfl rfl (by decide) (qt_add rfl rfl rfl (by omega) (by omega)) ?_
                  refine at_q rfl rfl (by decide) (qt_assign rfl rfl) ?_
                  refine at_end ?_
                  exact at_againc hL2 (k + 1) (⟨by omega, lt_succ_all hk.2 (by rw [← epl, ps_touch c4 c6, c7]; rfl)⟩) (by omega) ⟨vi (by omega), rfl, rfl, rfl, rfl, rfl, rfl, rfl, trivial⟩ (fun _ h => h.upto ⟨rfl, rfl, trivial⟩)
            · try simp only [decide_eq_true_eq, decide_eq_false_iff_not, beq_iff_eq, beq_eq_false_iff_ne, Bool.not_eq_true', Bool.not_eq_false', Bool.not_true, Bool.not_false, Int.not_lt, Int.not_le, ne_eq, Nat.not_lt, Nat.not_le] at c6
              refine at_seq ?_
              refine at_region ?_
              refine at_q rfl rfl (by decide) (qt_eql rfl rfl rfl) ?_
              refine at_q rfl rfl (by decide) (qt_assign rfl rfl) ?_
              refine at_end ?_
              refine at_cond rfl (fun c8 => ?_) (fun c8 => ?_)
              · try simp only [decide_eq_true_eq, decide_eq_false_iff_not, beq_iff_eq, beq_eq_false_iff_ne, Bool.not_eq_true', Bool.not_eq_false', Bool.not_true, Bool.not_false, Int.not_lt, Int.not_le, ne_eq, Nat.not_lt, Nat.not_le] at c8
                refine at_cutE [(139, .bool (lapNo (lg ls i) (lg ls k)))] (C := [(2, _), (3, _), (4, _), (11, _), (12, _), (13, _), (14, _), (5, _), (17, _), (18, _), (19, _), (22, _), (23, _), (24, _), (6, _), (25, _), (26, _), (27, _), (7, _), (28, _), (29, _), (30, _), (31, _), (32, _), (33, _), (34, _), (35, _), (36, _), (37, _), (38, _), (39, _), (40, _), (41, _), (42, _), (43, _), (44, _), (45, _), (46, _), (47, _), (49, _), (48, _), (51, _), (50, _), (95, _), (94, _)])  ⟨rfl, rfl, rfl, rfl, rfl, rfl, rfl, rfl, rfl, rfl, rfl, rfl, rfl, rfl, rfl, rfl, rfl, rfl, rfl, rfl, rfl, rfl, rfl, rfl, rfl, rfl, rfl, rfl, rfl, rfl, rfl, rfl, rfl, rfl, rfl, rfl, rfl, rfl, rfl, rfl, rfl, rfl, rfl, rfl, rfl, trivial⟩ (fun L hC_cut_20 => ?_) ?_
                · refine lx_start mixed (by kernel_rfl) (fun _ _ d _ _ h => by cases d <;> exact h) ?_
                  refine lx_q rfl rfl (by decide) (qt_move rfl rfl) ?_
                  refine lx_q rfl rfl (by decide) (qt_nilCheck rfl rfl) ?_
                  refine lx_q rfl rfl (by decide) (qt_fieldAddr rfl rfl tyf_spec_l13Edge_0) ?_
                  refine lx_q rfl rfl (by decide) (qt_loadS rfl rfl tys_impl_Pt rfl (by first | exact rdLegA (b := eg) (o := 0) (j := i) (fun w' hs => rowLegs (k := 1) rfl rfl w' hs) hlt | exact rdLegB (b := eg) (o := 0) (j := i) (fun w' hs => rowLegs (k := 1) rfl rfl w' hs) hlt | exact rdLegA (b := eg) (o := 0) (j := k) (fun w' hs => rowLegs (k := 1) rfl rfl w' hs) hkl | exact rdLegB (b := eg) (o := 0) (j := k) (fun w' hs => rowLegs (k := 1) rfl rfl w' hs) hkl)) ?_
                  refine lx_q rfl rfl (by decide) (qt_move rfl rfl) ?_
                  refine lx_q rfl rfl (by decide) (qt_nilCheck rfl rfl) ?_
                  refine lx_q rfl rfl (by decide) (qt_fieldAddr rfl rfl tyf_spec_l13Edge_0) ?_
                  refine lx_q rfl rfl (by decide) (qt_loadS rfl rfl tys_impl_Pt rfl (by first | exact rdLegA (b := eg) (o := 0) (j := i) (fun w' hs => rowLegs (k := 1) rfl rfl w' hs) hlt | exact rdLegB (b := eg) (o := 0) (j := i) (fun w' hs => rowLegs (k := 1) rfl rfl w' hs) hlt | exact rdLegA (b := eg) (o := 0) (j := k) (fun w' hs => rowLegs (k := 1) rfl rfl w' hs) hkl | exact rdLegB (b := eg) (o := 0) (j := k) (fun w' hs => rowLegs (k := 1) rfl rfl w' hs) hkl)) ?_
                  refine lx_q rfl rfl (by decide) (qt_eqlS_impl_Pt rfl rfl rfl) ?_
                  refine lx_q rfl rfl (by decide) (qt_move rfl rfl) ?_
                  refine lx_bsplit 105 rfl (fun g4 => ?_) (fun g4 => ?_)
                  · try simp only [decide_eq_true_eq, decide_eq_false_iff_not, beq_iff_eq, beq_eq_false_iff_ne, Bool.not_eq_true', Bool.not_eq_false', Bool.not_true, Bool.not_false, Int.not_lt, Int.not_le, ne_eq, Nat.not_lt, Nat.not_le] at g4
                    refine lx_qg rfl rfl rfl rfl rfl (by decide) (qt_move rfl rfl) ?_
                    refine lx_qg rfl rfl rfl rfl rfl (by decide) (qt_nilCheck rfl rfl) ?_
                    refine lx_qg rfl rfl rfl rfl rfl (by decide) (qt_fieldAddr rfl rfl tyf_spec_l13Edge_1) ?_
                    refine lx_qg rfl rfl rfl rfl rfl (by decide) (qt_loadS rfl rfl tys_impl_Pt rfl (by first | exact rdLegA (b := eg) (o := 0) (j := i) (fun w' hs => rowLegs (k := 1) rfl rfl w' hs) hlt | exact rdLegB (b := eg) (o := 0) (j := i) (fun w' hs => rowLegs (k := 1) rfl rfl w' hs) hlt | exact rdLegA (b := eg) (o := 0) (j := k) (fun w' hs => rowLegs (k := 1) rfl rfl w' hs) hkl | exact rdLegB (b := eg) (o := 0) (j := k) (fun w' hs => rowLegs (k := 1) rfl rfl w' hs) hkl)) ?_
                    refine lx_qg rfl rfl rfl rfl rfl (by decide) (qt_move rfl rfl) ?_
                    refine lx_qg rfl rfl rfl rfl rfl (by decide) (qt_nilCheck rfl rfl) ?_
                    refine lx_qg rfl rfl rfl rfl rfl (by decide) (qt_fieldAddr rfl rfl tyf_spec_l13Edge_1) ?_
                    refine lx_qg rfl rfl rfl rfl rfl (by decide) (qt_loadS rfl rfl tys_impl_Pt rfl (by first | exact rdLegA (b := eg) (o := 0) (j := i) (fun w' hs => rowLegs (k := 1) rfl rfl w' hs) hlt | exact rdLegB (b := eg) (o := 0) (j := i) (fun w' hs => rowLegs (k := 1) rfl rfl w' hs) hlt | exact rdLegA (b := eg) (o := 0) (j := k) (fun w' hs => rowLegs (k := 1) rfl rfl w' hs) hkl | exact rdLegB (b := eg) (o := 0) (j := k) (fun w' hs => rowLegs (k := 1) rfl rfl w' hs) hkl)) ?_
                    refine lx_qg rfl rfl rfl rfl rfl (by decide) (qt_eqlS_impl_Pt rfl rfl rfl) ?_
                    refine lx_q rfl rfl (by decide) (qt_pickT rfl rfl rfl) ?_
                    refine lx_q rfl rfl (by decide) (qt_not rfl rfl) ?_
                    refine lx_q rfl rfl (by decide) (qt_move rfl rfl) ?_
                    refine lx_bsplit 117 rfl (fun g5 => ?_) (fun g5 => ?_)
                    · try simp only [decide_eq_true_eq, decide_eq_false_iff_not, beq_iff_eq, beq_eq_false_iff_ne, Bool.not_eq_true', Bool.not_eq_false', Bool.not_true, Bool.not_false, Int.not_lt, Int.not_le, ne_eq, Nat.not_lt, Nat.not_le] at g5
                      refine lx_qg rfl rfl rfl rfl rfl (by decide) (qt_move rfl rfl) ?_
                      refine lx_qg rfl rfl rfl rfl rfl (by decide) (qt_nilCheck rfl rfl) ?_
                      refine lx_qg rfl rfl rfl rfl rfl (by decide) (qt_fieldAddr rfl rfl tyf_spec_l13Edge_0) ?_
                      refine lx_qg rfl rfl rfl rfl rfl (by decide) (qt_loadS rfl rfl tys_impl_Pt rfl (by first | exact rdLegA (b := eg) (o := 0) (j := i) (fun w' hs => rowLegs (k := 1) rfl rfl w' hs) hlt | exact rdLegB (b := eg) (o := 0) (j := i) (fun w' hs => rowLegs (k := 1) rfl rfl w' hs) hlt | exact rdLegA (b := eg) (o := 0) (j := k) (fun w' hs => rowLegs (k := 1) rfl rfl w' hs) hkl | exact rdLegB (b := eg) (o := 0) (j := k) (fun w' hs => rowLegs (k := 1) rfl rfl w' hs) hkl)) ?_
                      refine lx_qg rfl rfl rfl rfl rfl (by decide) (qt_move rfl rfl) ?_
                      refine lx_qg rfl rfl rfl rfl rfl (by decide) (qt_nilCheck rfl rfl) ?_
                      refine lx_qg rfl rfl rfl rfl rfl (by decide) (qt_fieldAddr rfl rfl tyf_spec_l13Edge_1) ?_
                      refine lx_qg rfl rfl rfl rfl rfl (by decide) (qt_loadS rfl rfl tys_impl_Pt rfl (by first | exact rdLegA (b := eg) (o := 0) (j := i) (fun w' hs => rowLegs (k := 1) rfl rfl w' hs) hlt | exact rdLegB (b := eg) (o := 0) (j := i) (fun w' hs => rowLegs (k := 1) rfl rfl w' hs) hlt | exact rdLegA (b := eg) (o := 0) (j := k) (fun w' hs => rowLegs (k := 1) rfl rfl w' hs) hkl | exact rdLegB (b := eg) (o := 0) (j := k) (fun w' hs => rowLegs (k := 1) rfl rfl w' hs) hkl)) ?_
                      refine lx_qg rfl rfl rfl rfl rfl (by decide) (qt_eqlS_impl_Pt rfl rfl rfl) ?_
                      refine lx_qg rfl rfl rfl rfl rfl (by decide) (qt_move rfl rfl) ?_
                      refine lx_bsplit 127 rfl (fun g6 => ?_) (fun g6 => ?_)
                      · try simp only [decide_eq_true_eq, decide_eq_false_iff_not, beq_iff_eq, beq_eq_false_iff_ne, Bool.not_eq_true', Bool.not_eq_false', Bool.not_true, Bool.not_false, Int.not_lt, Int.not_le, ne_eq, Nat.not_lt, Nat.not_le] at g6
                        refine lx_qg rfl rfl rfl rfl rfl (by decide) (qt_move rfl rfl) ?_
                        refine lx_qg rfl rfl rfl rfl rfl (by decide) (qt_nilCheck rfl rfl) ?_
                        refine lx_qg rfl rfl rfl rfl rfl (by decide) (qt_fieldAddr rfl rfl tyf_spec_l13Edge_1) ?_
                        refine lx_qg rfl rfl rfl rfl rfl (by decide) (qt_loadS rfl rfl tys_impl_Pt rfl (by first | exact rdLegA (b := eg) (o := 0) (j := i) (fun w' hs => rowLegs (k := 1) rfl rfl w' hs) hlt | exact rdLegB (b := eg) (o := 0) (j := i) (fun w' hs => rowLegs (k := 1) rfl rfl w' hs) hlt | exact rdLegA (b := eg) (o := 0) (j := k) (fun w' hs => rowLegs (k := 1) rfl rfl w' hs) hkl | exact rdLegB (b := eg) (o := 0) (j := k) (fun w' hs => rowLegs (k := 1) rfl rfl w' hs) hkl)) ?_
                        refine lx_qg rfl rfl rfl rfl rfl (by decide) (qt_move rfl rfl) ?_
                        refine lx_qg rfl rfl rfl rfl rfl (by decide) (qt_nilCheck rfl rfl) ?_
                        refine lx_qg rfl rfl rfl rfl rfl (by decide) (qt_fieldAddr rfl rfl tyf_spec_l13Edge_0) ?_
                        refine lx_qg rfl rfl rfl rfl rfl (by decide) (qt_loadS rfl rfl tys_impl_Pt rfl (by first | exact rdLegA (b := eg) (o := 0) (j := i) (fun w' hs => rowLegs (k := 1) rfl rfl w' hs) hlt | exact rdLegB (b := eg) (o := 0) (j := i) (fun w' hs => rowLegs (k := 1) rfl rfl w' hs) hlt | exact rdLegA (b := eg) (o := 0) (j := k) (fun w' hs => rowLegs (k := 1) rfl rfl w' hs) hkl | exact rdLegB (b := eg) (o := 0) (j := k) (fun w' hs => rowLegs (k := 1) rfl rfl w' hs) hkl)) ?_
                        refine lx_qg rfl rfl rfl rfl rfl (by decide) (qt_eqlS_impl_Pt rfl rfl rfl) ?_
                        refine lx_qg rfl rfl rfl rfl rfl (by decide) (qt_pickT rfl rfl rfl) ?_
                        refine lx_qg rfl rfl rfl rfl rfl (by decide) (qt_not rfl rfl) ?_
                        refine lx_q rfl rfl (by decide) (qt_pickT rfl rfl rfl) ?_
                        refine lx_end ?_
                        refine norm_then ?_
                        exact at_meet hC_cut_20 ⟨vb (by simp only [lapNo, *, Bool.not_true, Bool.not_false, Bool.true_and, Bool.false_and, Bool.and_false, Bool.and_true]), rfl, rfl, rfl, rfl, rfl, rfl, rfl, rfl, rfl, rfl, rfl, rfl, rfl, rfl, rfl, rfl, rfl, rfl, rfl, rfl, rfl, rfl, rfl, rfl, rfl, rfl, rfl, rfl, rfl, rfl, rfl, rfl, rfl, rfl, rfl, rfl, rfl, rfl, rfl, rfl, rfl, rfl, rfl, rfl, rfl, trivial⟩ (fun _ h => h.upto ⟨rfl, rfl, trivial⟩)
                      · try simp only [decide_eq_true_eq, decide_eq_false_iff_not, beq_iff_eq, beq_eq_false_iff_ne, Bool.not_eq_true', Bool.not_eq_false', Bool.not_true, Bool.not_false, Int.not_lt, Int.not_le, ne_eq, Nat.not_lt, Nat.not_le] at g6
                        refine lx_off rfl rfl rfl rfl (by decide) rfl (by decide) ?_
                        refine lx_off rfl rfl rfl rfl (by decide) rfl (by decide) ?_
                        refine lx_off rfl rfl rfl rfl (by decide) rfl (by decide) ?_
                        refine lx_off rfl rfl rfl rfl (by decide) rfl (by decide) ?_
                        refine lx_off rfl rfl rfl rfl (by decide) rfl (by decide) ?_
                        refine lx_off rfl rfl rfl rfl (by decide) rfl (by decide) ?_
                        refine lx_off rfl rfl rfl rfl (by decide) rfl (by decide) ?_
                        refine lx_off rfl rfl rfl rfl (by decide) rfl (by decide) ?_
                        refine lx_off rfl rfl rfl rfl (by decide) rfl (by decide) ?_
                        refine lx_qg rfl rfl rfl rfl rfl (by decide) (qt_pickF rfl rfl rfl) ?_
                        refine lx_qg rfl rfl rfl rfl rfl (by decide) (qt_not rfl rfl) ?_
                        refine lx_q rfl rfl (by decide) (qt_pickT rfl rfl rfl) ?_
                        refine lx_end ?_
                        refine norm_then ?_
                        exact at_meet hC_cut_20 ⟨vb (by simp only [lapNo, *, Bool.not_true, Bool.not_false, Bool.true_and, Bool.false_and, Bool.and_false, Bool.and_true]), rfl, rfl, rfl, rfl, rfl, rfl, rfl, rfl, rfl, rfl, rfl, rfl, rfl, rfl, rfl, rfl, rfl, rfl, rfl, rfl, rfl, rfl, rfl, rfl, rfl, rfl, rfl, rfl, rfl, rfl, rfl, rfl, rfl, rfl, rfl, rfl, rfl, rfl, rfl, rfl, rfl, rfl, rfl, rfl, rfl, trivial⟩ (fun _ h => h.upto ⟨rfl, rfl, trivial⟩)
                    · try simp only [decide_eq_true_eq, decide_eq_false_iff_not, beq_iff_eq, beq_eq_false_iff_ne, Bool.not_eq_true', Bool.not_eq_false', Bool.not_true, Bool.not_false, Int.not_lt, Int.not_le, ne_eq, Nat.not_lt, Nat.not_le] at g5
                      refine lx_off rfl rfl rfl rfl (by decide) rfl (by decide) ?_
                      refine lx_off rfl rfl rfl rfl (by decide) rfl (by decide) ?_
                      refine lx_off rfl rfl rfl rfl (by decide) rfl (by decide) ?_
                      refine lx_off rfl rfl rfl rfl (by decide) rfl (by decide) ?_
                      refine lx_off rfl rfl rfl rfl (by decide) rfl (by decide) ?_
                      refine lx_off rfl rfl rfl rfl (by decide) rfl (by decide) ?_
                      refine lx_off rfl rfl rfl rfl (by decide) rfl (by decide) ?_
                      refine lx_off rfl rfl rfl rfl (by decide) rfl (by decide) ?_
                      refine lx_off rfl rfl rfl rfl (by decide) rfl (by decide) ?_
                      refine lx_off rfl rfl rfl rfl (by decide) rfl (by decide) ?_
                      refine lx_offu rfl rfl rfl rfl rfl (by decide) ?_
                      refine lx_offu rfl rfl rfl rfl rfl (by decide) ?_
                      refine lx_offu rfl rfl rfl rfl rfl (by decide) ?_
                      refine lx_offu rfl rfl rfl rfl rfl (by decide) ?_
                      refine lx_offu rfl rfl rfl rfl rfl (by decide) ?_
                      refine lx_offu rfl rfl rfl rfl rfl (by decide) ?_
                      refine lx_offu rfl rfl rfl rfl rfl (by decide) ?_
                      refine lx_offu rfl rfl rfl rfl rfl (by decide) ?_
                      refine lx_offu rfl rfl rfl rfl rfl (by decide) ?_
                      refine lx_off rfl rfl rfl rfl (by decide) rfl (by decide) ?_
                      refine lx_off rfl rfl rfl rfl (by decide) rfl (by decide) ?_
                      refine lx_q rfl rfl (by decide) (qt_pickF rfl rfl rfl) ?_
                      refine lx_end ?_
                      refine norm_then ?_
                      exact at_meet hC_cut_20 ⟨vb (by simp only [lapNo, *, Bool.not_true, Bool.not_false, Bool.true_and, Bool.false_and, Bool.and_false, Bool.and_true]), rfl, rfl, rfl, rfl, rfl, rfl, rfl, rfl, rfl, rfl, rfl, rfl, rfl, rfl, rfl, rfl, rfl, rfl, rfl, rfl, rfl, rfl, rfl, rfl, rfl, rfl, rfl, rfl, rfl, rfl, rfl, rfl, rfl, rfl, rfl, rfl, rfl, rfl, rfl, rfl, rfl, rfl, rfl, rfl, rfl, trivial⟩ (fun _ h => h.upto ⟨rfl, rfl, trivial⟩)
                  · try simp only [decide_eq_true_eq, decide_eq_false_iff_not, beq_iff_eq, beq_eq_false_iff_ne, Bool.not_eq_true', Bool.not_eq_false', Bool.not_true, Bool.not_false, Int.not_lt, Int.not_le, ne_eq, Nat.not_lt, Nat.not_le] at g4
                    refine lx_off rfl rfl rfl rfl (by decide) rfl (by decide) ?_
                    refine lx_off rfl rfl rfl rfl (by decide) rfl (by decide) ?_
                    refine lx_off rfl rfl rfl rfl (by decide) rfl (by decide) ?_
                    refine lx_off rfl rfl rfl rfl (by decide) rfl (by decide) ?_
                    refine lx_off rfl rfl rfl rfl (by decide) rfl (by decide) ?_
                    refine lx_off rfl rfl rfl rfl (by decide) rfl (by decide) ?_
                    refine lx_off rfl rfl rfl rfl (by decide) rfl (by decide) ?_
                    refine lx_off rfl rfl rfl rfl (by decide) rfl (by decide) ?_
                    refine lx_off rfl rfl rfl rfl (by decide) rfl (by decide) ?_
                    refine lx_q rfl rfl (by decide) (qt_pickF rfl rfl rfl) ?_
                    refine lx_q rfl rfl (by decide) (qt_not rfl rfl) ?_
                    refine lx_q rfl rfl (by decide) (qt_move rfl rfl) ?_
                    refine lx_qg rfl rfl rfl rfl rfl (by decide) (qt_move rfl rfl) ?_
                    refine lx_qg rfl rfl rfl rfl rfl (by decide) (qt_nilCheck rfl rfl) ?_
                    refine lx_qg rfl rfl rfl rfl rfl (by decide) (qt_fieldAddr rfl rfl tyf_spec_l13Edge_0) ?_
                    refine lx_qg rfl rfl rfl rfl rfl (by decide) (qt_loadS rfl rfl tys_impl_Pt rfl (by first | exact rdLegA (b := eg) (o := 0) (j := i) (fun w' hs => rowLegs (k := 1) rfl rfl w' hs) hlt | exact rdLegB (b := eg) (o := 0) (j := i) (fun w' hs => rowLegs (k := 1) rfl rfl w' hs) hlt | exact rdLegA (b := eg) (o := 0) (j := k) (fun w' hs => rowLegs (k := 1) rfl rfl w' hs) hkl | exact rdLegB (b := eg) (o := 0) (j := k) (fun w' hs => rowLegs (k := 1) rfl rfl w' hs) hkl)) ?_
                    refine lx_qg rfl rfl rfl rfl rfl (by decide) (qt_move rfl rfl) ?_
                    refine lx_qg rfl rfl rfl rfl rfl (by decide) (qt_nilCheck rfl rfl) ?_
                    refine lx_qg rfl rfl rfl rfl rfl (by decide) (qt_fieldAddr rfl rfl tyf_spec_l13Edge_1) ?_
                    refine lx_qg rfl rfl rfl rfl rfl (by decide) (qt_loadS rfl rfl tys_impl_Pt rfl (by first | exact rdLegA (b := eg) (o := 0) (j := i) (fun w' hs => rowLegs (k := 1) rfl rfl w' hs) hlt | exact rdLegB (b := eg) (o := 0) (j := i) (fun w' hs => rowLegs (k := 1) rfl rfl w' hs) hlt | exact rdLegA (b := eg) (o := 0) (j := k) (fun w' hs => rowLegs (k := 1) rfl rfl w' hs) hkl | exact rdLegB (b := eg) (o := 0) (j := k) (fun w' hs => rowLegs (k := 1) rfl rfl w' hs) hkl)) ?_
                    refine lx_qg rfl rfl rfl rfl rfl (by decide) (qt_eqlS_impl_Pt rfl rfl rfl) ?_
                    refine lx_qg rfl rfl rfl rfl rfl (by decide) (qt_move rfl rfl) ?_
                    refine lx_bsplit 127 rfl (fun g7 => ?_) (fun g7 => ?_)
                    · try simp only [decide_eq_true_eq, decide_eq_false_iff_not, beq_iff_eq, beq_eq_false_iff_ne, Bool.not_eq_true', Bool.not_eq_false', Bool.not_true, Bool.not_false, Int.not_lt, Int.not_le, ne_eq, Nat.not_lt, Nat.not_le] at g7
                      refine lx_qg rfl rfl rfl rfl rfl (by decide) (qt_move rfl rfl) ?_
                      refine lx_qg rfl rfl rfl rfl rfl (by decide) (qt_nilCheck rfl rfl) ?_
                      refine lx_qg rfl rfl rfl rfl rfl (by decide) (qt_fieldAddr rfl rfl tyf_spec_l13Edge_1) ?_
                      refine lx_qg rfl rfl rfl rfl rfl (by decide) (qt_loadS rfl rfl tys_impl_Pt rfl (by first | exact rdLegA (b := eg) (o := 0) (j := i) (fun w' hs => rowLegs (k := 1) rfl rfl w' hs) hlt | exact rdLegB (b := eg) (o := 0) (j := i) (fun w' hs => rowLegs (k := 1) rfl rfl w' hs) hlt | exact rdLegA (b := eg) (o := 0) (j := k) (fun w' hs => rowLegs (k := 1) rfl rfl w' hs) hkl | exact rdLegB (b := eg) (o := 0) (j := k) (fun w' hs => rowLegs (k := 1) rfl rfl w' hs) hkl)) ?_
                      refine lx_qg rfl rfl rfl rfl rfl (by decide) (qt_move rfl rfl) ?_
                      refine lx_qg rfl rfl rfl rfl rfl (by decide) (qt_nilCheck rfl rfl) ?_
                      refine lx_qg rfl rfl rfl rfl rfl (by decide) (qt_fieldAddr rfl rfl tyf_spec_l13Edge_0) ?_
                      refine lx_qg rfl rfl rfl rfl rfl (by decide) (qt_loadS rfl rfl tys_impl_Pt rfl (by first | exact rdLegA (b := eg) (o := 0) (j := i) (fun w' hs => rowLegs (k := 1) rfl rfl w' hs) hlt | exact rdLegB (b := eg) (o := 0) (j := i) (fun w' hs => rowLegs (k := 1) rfl rfl w' hs) hlt | exact rdLegA (b := eg) (o := 0) (j := k) (fun w' hs => rowLegs (k := 1) rfl rfl w' hs) hkl | exact rdLegB (b := eg) (o := 0) (j := k) (fun w' hs => rowLegs (k := 1) rfl rfl w' hs) hkl)) ?_
                      refine lx_qg rfl rfl rfl rfl rfl (by decide) (qt_eqlS_impl_Pt rfl rfl rfl) ?_
                      refine lx_qg rfl rfl rfl rfl rfl (by decide) (qt_pickT rfl rfl rfl) ?_
                      refine lx_qg rfl rfl rfl rfl rfl (by decide) (qt_not rfl rfl) ?_
                      refine lx_q rfl rfl (by decide) (qt_pickT rfl rfl rfl) ?_
                      refine lx_end ?_
                      refine norm_then ?_
                      exact at_meet hC_cut_20 ⟨vb (by simp only [lapNo, *, Bool.not_true, Bool.not_false, Bool.true_and, Bool.false_and, Bool.and_false, Bool.and_true]), rfl, rfl, rfl, rfl, rfl, rfl, rfl, rfl, rfl, rfl, rfl, rfl, rfl, rfl, rfl, rfl, rfl, rfl, rfl, rfl, rfl, rfl, rfl, rfl, rfl, rfl, rfl, rfl, rfl, rfl, rfl, rfl, rfl, rfl, rfl, rfl, rfl, rfl, rfl, rfl, rfl, rfl, rfl, rfl, rfl, trivial⟩ (fun _ h => h.upto ⟨rfl, rfl, trivial⟩)
                    · try simp only [decide_eq_true_eq, decide_eq_false_iff_not, beq_iff_eq, beq_eq_false_iff_ne, Bool.not_eq_true', Bool.not_eq_false', Bool.not_true, Bool.not_false, Int.not_lt, Int.not_le, ne_eq, Nat.not_lt, Nat.not_le] at g7
                      refine lx_off rfl rfl rfl rfl (by decide) rfl (by decide) ?_
                      refine lx_off rfl rfl rfl rfl (by decide) rfl (by decide) ?_
                      refine lx_off rfl rfl rfl rfl (by decide) rfl (by decide) ?_
                      refine lx_off rfl rfl rfl rfl (by decide) rfl (by decide) ?_
                      refine lx_off rfl rfl rfl rfl (by decide) rfl (by decide) ?_
                      refine lx_off rfl rfl rfl rfl (by decide) rfl (by decide) ?_
                      refine lx_off rfl rfl rfl rfl (by decide) rfl (by decide) ?_
                      refine lx_off rfl rfl rfl rfl (by decide) rfl (by decide) ?_
                      refine lx_off rfl rfl rfl rfl (by decide) rfl (by decide) ?_
                      refine lx_qg rfl rfl rfl rfl rfl (by decide) (qt_pickF rfl rfl rfl) ?_
                      refine lx_qg rfl rfl rfl rfl rfl (by decide) (qt_not rfl rfl) ?_
                      refine lx_q rfl rfl (by decide) (qt_pickT rfl rfl rfl) ?_
                      refine lx_end ?_
                      refine norm_then ?_
                      exact at_meet hC_cut_20 ⟨vb (by simp only [lapNo, *, Bool.not_true, Bool.not_false, Bool.true_and, Bool.false_and, Bool.and_false, Bool.and_true]), rfl, rfl, rfl, rfl, rfl, rfl, rfl, rfl, rfl, rfl, rfl, rfl, rfl, rfl, rfl, rfl, rfl, rfl, rfl, rfl, rfl, rfl, rfl, rfl, rfl, rfl, rfl, rfl, rfl, rfl, rfl, rfl, rfl, rfl, rfl, rfl, rfl, rfl, rfl, rfl, rfl, rfl, rfl, rfl, rfl, trivial⟩ (fun _ h => h.upto ⟨rfl, rfl, trivial⟩)
                · refine at_envE (by simp only [List.nil_append, List.cons_append]; rfl) ?_
                  refine at_cond rfl (fun c9 => ?_) (fun c9 => ?_)
                  · try simp only [decide_eq_true_eq, decide_eq_false_iff_not, beq_iff_eq, beq_eq_false_iff_ne, Bool.not_eq_true', Bool.not_eq_false', Bool.not_true, Bool.not_false, Int.not_lt, Int.not_le, ne_eq, Nat.not_lt, Nat.not_le] at c9
                    refine at_seq ?_
                    refine at_region ?_
                    refine at_q rfl rfl (by decide) (qt_assign rfl rfl) ?_
                    refine at_end ?_
                    refine at_retc ?_
                    refine pass_ret ?_
                    refine pass_ret ?_
                    refine then_ret ?_
                    refine then_ret ?_
                    refine pass_ret ?_
                    refine pass_ret ?_
                    refine then_ret ?_
                    refine then_ret ?_
                    refine pass_ret ?_
                    refine then_ret ?_
                    refine at_ret1 rfl (.tmp rfl) ?_
                    intro w' hs
                    exact ⟨retB (by rw [eB]; exact snapAll_no hlt hkt (by rw [← epl, ps_lap c4 c8, c9]; rfl)), hs.fin⟩
                  · try simp only [decide_eq_true_eq, decide_eq_false_iff_not, beq_iff_eq, beq_eq_false_iff_ne, Bool.not_eq_true', Bool.not_eq_false', Bool.not_true, Bool.not_false, Int.not_lt, Int.not_le, ne_eq, Nat.not_lt, Nat.not_le] at c9
                    refine at_skip ?_
                    refine norm_block ?_
                    refine norm_block ?_
                    refine norm_then ?_
                    refine at_region ?_
                    refine at_q rfl rfl (by decide) (qt_move rfl rfl) ?_
                    refine at_q rfl rfl (by decide) (qt_add rfl rfl rfl (by omega) (by omega)) ?_
                    refine at_q rfl rfl (by decide) (qt_assign rfl rfl) ?_
                    refine at_end ?_
                    exact at_againc hL2 (k + 1) (⟨by omega, lt_succ_all hk.2 (by rw [← epl, ps_lap c4 c8, c9]; rfl)⟩) (by omega) ⟨vi (by omega), rfl, rfl, rfl, rfl, rfl, rfl, rfl, trivial⟩ (fun _ h => h.upto ⟨rfl, rfl, trivial⟩)
              · try simp only [decide_eq_true_eq, decide_eq_false_iff_not, beq_iff_eq, beq_eq_false_iff_ne, Bool.not_eq_true', Bool.not_eq_false', Bool.not_true, Bool.not_false, Int.not_lt, Int.not_le, ne_eq, Nat.not_lt, Nat.not_le] at c8
                refine at_skip ?_
                refine norm_block ?_
                refine norm_block ?_
                refine norm_then ?_
                refine at_region ?_
                refine at_q rfl rfl (by decide) (qt_move rfl rfl) ?_
                refine at_q rfl rfl (by decide) (qt_add rfl rfl rfl (by omega) (by omega)) ?_
                refine at_q rfl rfl (by decide) (qt_assign rfl rfl) ?_
                refine at_end ?_
                exact at_againc hL2 (k + 1) (⟨by omega, lt_succ_all hk.2 (by rw [← epl, ps_none c4 c5 c6 c8])⟩) (by omega) ⟨vi (by omega), rfl, rfl, rfl, rfl, rfl, rfl, rfl, trivial⟩ (fun _ h => h.upto ⟨rfl, rfl, trivial⟩)
      · try simp only [decide_eq_true_eq, decide_eq_false_iff_not, beq_iff_eq, beq_eq_false_iff_ne, Bool.not_eq_true', Bool.not_eq_false', Bool.not_true, Bool.not_false, Int.not_lt, Int.not_le, ne_eq, Nat.not_lt, Nat.not_le] at c3
        refine at_exit ?_
        refine pass_then (fun h => by cases h) ?_
        refine pass_then (fun h => by cases h) ?_
        refine pass_hit ?_
        refine norm_block ?_
        refine norm_then ?_
        refine at_region ?_
        refine at_q rfl rfl (by decide) (qt_move rfl rfl) ?_
        refine at_q rfl rfl (by decide) (qt_add rfl rfl rfl (by omega) (by omega)) ?_
        refine at_q rfl rfl (by decide) (qt_assign rfl rfl) ?_
        refine at_end ?_
        exact at_againc hL1 (i + 1) (⟨by omega, lt_succ_all (P := fun q => ∀ k, k < q → pairL (lg ls q) (lg ls k) = true) hi.2 (fun p hp => hk.2 p (by omega))⟩) (by omega) ⟨vi (by omega), rfl, rfl, trivial⟩ (fun _ h => h.upto ⟨rfl, rfl, trivial⟩)
    · try simp only [decide_eq_true_eq, decide_eq_false_iff_not, beq_iff_eq, beq_eq_false_iff_ne, Bool.not_eq_true', Bool.not_eq_false', Bool.not_true, Bool.not_false, Int.not_lt, Int.not_le, ne_eq, Nat.not_lt, Nat.not_le] at c2
      refine at_exit ?_
      refine pass_then (fun h => by cases h) ?_
      refine pass_then (fun h => by cases h) ?_
      refine pass_hit ?_
      refine norm_then ?_
      refine at_seq ?_
      refine at_region ?_
      refine at_q rfl rfl (by decide) (qt_assign rfl rfl) ?_
      refine at_end ?_
      refine at_retc ?_
      refine at_ret1 rfl (.tmp rfl) ?_
      intro w' hs
      exact ⟨retB (by rw [eB]; exact snapAll_yes fun q hq => hi.2 q (by omega)), hs.fin⟩
end Go.Proofs.Ytnalgllmdpcjcaa
