/- Sweeps of pens, bounds of strokes: both sides. -/
import Derived.Test.YtcplmmoeglembaaSums
namespace Go.Proofs.Ytcplmmoeglembaa
open Go Go.RowKit
set_option linter.unusedVariables false
set_option linter.unusedSimpArgs false
set_option maxRecDepth 100000
set_option maxHeartbeats 4000000
set_option linter.unusedVariables false
set_option linter.unusedSimpArgs false

theorem pair_bd {p q : Pn} (hp : bd2 p) (hq : bd2 q) : ∀ r ∈ [p, q], bd2 r := fun r hr => by
  simp only [List.mem_cons, List.not_mem_nil, or_false] at hr
  rcases hr with rfl | rfl
  · exact hp
  · exact hq
def swB (pen : List Pn) (p q : Pn) : Bool := penB pen && (okB p.1 p.2 && okB q.1 q.2)
def swC (pen : List Pn) (p q : Pn) : Int := if swB pen p q = true then (if allOk (hullP (smsP pen [p, q])) = true then 0 else 2) else 1
def swR (pen : List Pn) (p q : Pn) : List Pn := if swC pen p q = 0 then hullP (smsP pen [p, q]) else []
theorem sw_no {pen : List Pn} {p q : Pn} (h : swB pen p q = false) : swC pen p q = 1 ∧ swR pen p q = [] := by simp [swR, swC, h]
theorem sw_out {pen : List Pn} {p q : Pn} (h : swB pen p q = true) (h3 : allOk (hullP (smsP pen [p, q])) = false) : swC pen p q = 2 ∧ swR pen p q = [] := by simp [swR, swC, h, h3]
theorem sw_yes {pen : List Pn} {p q : Pn} (h : swB pen p q = true) (h3 : allOk (hullP (smsP pen [p, q])) = true) : swC pen p q = 0 ∧ swR pen p q = hullP (smsP pen [p, q]) := by simp [swR, swC, h, h3]
theorem swB_of {pen : List Pn} {p q : Pn} (h : swB pen p q = true) : penB pen = true ∧ bd2 p ∧ bd2 q := by
  simp only [swB, Bool.and_eq_true] at h
  exact ⟨h.1, okB_bd2 h.2.1, okB_bd2 h.2.2⟩
theorem swp_len {pen : List Pn} (h : penB pen = true) (p q : Pn) : (hullP (smsP pen [p, q])).length ≤ 64 := by
  have h1 := hull_len (smsP pen [p, q])
  have h2 := sms_len pen [p, q]
  have h3 := (pen_of h).1
  have e : [p, q].length = 2 := rfl
  rw [e] at h2
  omega
theorem sw_len (pen : List Pn) (p q : Pn) : (swR pen p q).length ≤ 500 := by
  unfold swR
  split
  · rename_i h
    unfold swC at h
    split at h
    · rename_i h1
      have := swp_len (swB_of h1).1 p q
      omega
    · omega
  · simp
theorem SweepOf_any (A : Option Addr) (n c : Nat) (pen : List Pn) (p q : Pn) (w : World) (h : Pts w A n pen) (hn : (n : Int) ≤ 1048576) :
    Calls Try.prog 33 #[.slice A n c, pV p, pV q] w fun e w' => ∃ A' c', e = .returned (.tuple #[ringV A' (swR pen p q).length c', .int .i64 (swC pen p q)]) ∧ OwnP w.heap.size w'.heap.size w' A' (swR pen p q).length (swR pen p q) ∧ Over w w' := by
  have hl := h.1
  have hal : allOk [p, q] = (okB p.1 p.2 && okB q.1 q.2) := by simp [allOk]
  refine walk_from (m := 34) (Try.func33) rfl rfl (Nat.le_of_ble_eq_true rfl) ?_
  refine at_seq ?_
  refine at_region ?_
  refine at_op rfl ?_
  refine op_box rfl rfl (rfl) rfl (by decide) (fun b1 => ?_)
  refine at_rsE (by simp only [List.nil_append, List.cons_append, List.set_cons_zero, List.set_cons_succ, Value.cells, List.toList_toArray]; rfl) ?_
  refine at_op rfl ?_
  refine op_box rfl rfl (rfl) rfl (by decide) (fun b2 => ?_)
  refine at_rsE (by simp only [List.nil_append, List.cons_append, List.set_cons_zero, List.set_cons_succ, Value.cells, List.toList_toArray]; rfl) ?_
  refine at_op rfl ?_
  refine op_alloc rfl tyz_impl_Ring rfl (by decide) (fun b3 => ?_)
  refine at_rsE (by simp only [List.nil_append, List.cons_append, List.set_cons_zero, List.set_cons_succ, Value.cells, List.toList_toArray]; rfl) ?_
  refine at_q rfl rfl (by decide) (qt_assign rfl rfl) ?_
  refine at_end ?_
  refine at_seq ?_
  refine at_seq ?_
  refine at_region ?_
  refine at_q rfl rfl (by decide) (qt_move rfl rfl) ?_
  refine at_q rfl rfl (by decide) (qt_call ok_impl_IsPen rfl rfl (fun w1 hs => IsPen_any A n c pen w1 (h.over hs.fin) hn)) ?_
  refine at_q rfl rfl (by decide) (qt_not rfl rfl) ?_
  refine at_q rfl rfl (by decide) (qt_move rfl rfl) ?_
  refine at_bsplit 13 rfl (fun g1 => ?_) (fun g1 => ?_)
  · try simp only [decide_eq_true_eq, decide_eq_false_iff_not, beq_iff_eq, beq_eq_false_iff_ne, Bool.not_eq_true', Bool.not_eq_false', Bool.not_true, Bool.not_false, Int.not_lt, Int.not_le, ne_eq, Nat.not_lt, Nat.not_le] at g1
    refine at_off rfl rfl rfl rfl (by decide) rfl (by decide) ?_
    refine at_off rfl rfl rfl rfl (by decide) rfl (by decide) ?_
    refine at_off rfl rfl rfl rfl (by decide) rfl (by decide) ?_
    refine at_off rfl rfl rfl rfl (by decide) rfl (by decide) ?_
    refine at_off rfl rfl rfl rfl (by decide) rfl (by decide) ?_
    refine at_q rfl rfl (by decide) (qt_pickT rfl rfl rfl) ?_
    refine at_end ?_
    refine at_yes rfl rfl ?_
    refine at_seq ?_
    refine at_region ?_
    refine at_q rfl rfl (by decide) (qt_build rfl rfl (bld_impl_Ring_)) ?_
    refine at_op rfl ?_
    refine op_storeAll' (k := 2) rfl rfl rfl rfl (rfl) (by rfl) tyz_impl_Ring.szx rfl rfl rfl ?_
    refine at_rsE (by simp only [List.nil_append, List.cons_append, List.set_cons_zero, List.set_cons_succ, Value.cells, List.toList_toArray]; rfl) ?_
    refine at_q rfl rfl (by decide) (qt_assign rfl rfl) ?_
    refine at_end ?_
    refine at_retc ?_
    refine then_ret ?_
    refine at_ret2 rfl (rvCelS (k := 2) rfl tys_impl_Ring rfl rfl) (.tmp rfl) ?_
    intro w' hs
    obtain ⟨e1, e2⟩ := sw_no (pen := pen) (p := p) (q := q) (by simp_all [swB])
    exact ⟨none, 0, by rw [e1, e2]; rfl, by rw [e2]; exact OwnP.nil none, hs.fin⟩
  · try simp only [decide_eq_true_eq, decide_eq_false_iff_not, beq_iff_eq, beq_eq_false_iff_ne, Bool.not_eq_true', Bool.not_eq_false', Bool.not_true, Bool.not_false, Int.not_lt, Int.not_le, ne_eq, Nat.not_lt, Nat.not_le] at g1
    refine at_on rfl rfl rfl rfl ?_
    refine op_q rfl (by decide) (qt_loadS rfl rfl tys_impl_Pt rfl (rdAll (k := 0) rfl)) ?_
    refine at_on rfl rfl rfl rfl ?_
    refine op_q rfl (by decide) (qt_loadS rfl rfl tys_impl_Pt rfl (rdAll (k := 1) rfl)) ?_
    refine at_on rfl rfl rfl rfl ?_
    refine op_buildSlice rfl rfl (bsl_sl_impl_Pt_2_0_1 rfl rfl) rfl (by decide) (fun b4 => ?_)
    refine at_rsE (by simp only [List.nil_append, List.cons_append, List.set_cons_zero, List.set_cons_succ, Value.cells, List.toList_toArray]; rfl) ?_
    refine at_on rfl rfl rfl rfl ?_
    refine op_q rfl (by decide) (qt_call ok_impl_validPts rfl rfl (fun w1 hs => validPts_any _ 2 2 [p, q] w1 (ptsCel [p, q] (k := 3) rfl rfl w1 hs) (by decide))) ?_
    refine at_on rfl rfl rfl rfl ?_
    refine op_q rfl (by decide) (qt_not rfl rfl) ?_
    refine at_q rfl rfl (by decide) (qt_pickF rfl rfl rfl) ?_
    refine at_end ?_
    refine at_cond rfl (fun c1 => ?_) (fun c1 => ?_)
    · try simp only [decide_eq_true_eq, decide_eq_false_iff_not, beq_iff_eq, beq_eq_false_iff_ne, Bool.not_eq_true', Bool.not_eq_false', Bool.not_true, Bool.not_false, Int.not_lt, Int.not_le, ne_eq, Nat.not_lt, Nat.not_le] at c1
      refine at_seq ?_
      refine at_region ?_
      refine at_q rfl rfl (by decide) (qt_build rfl rfl (bld_impl_Ring_)) ?_
      refine at_op rfl ?_
      refine op_storeAll' (k := 2) rfl rfl rfl rfl (rfl) (by rfl) tyz_impl_Ring.szx rfl rfl rfl ?_
      refine at_rsE (by simp only [List.nil_append, List.cons_append, List.set_cons_zero, List.set_cons_succ, Value.cells, List.toList_toArray]; rfl) ?_
      refine at_q rfl rfl (by decide) (qt_assign rfl rfl) ?_
      refine at_end ?_
      refine at_retc ?_
      refine then_ret ?_
      refine at_ret2 rfl (rvCelS (k := 2) rfl tys_impl_Ring rfl rfl) (.tmp rfl) ?_
      intro w' hs
      obtain ⟨e1, e2⟩ := sw_no (pen := pen) (p := p) (q := q) (by simp_all [swB, allOk])
      exact ⟨none, 0, by rw [e1, e2]; rfl, by rw [e2]; exact OwnP.nil none, hs.fin⟩
    · try simp only [decide_eq_true_eq, decide_eq_false_iff_not, beq_iff_eq, beq_eq_false_iff_ne, Bool.not_eq_true', Bool.not_eq_false', Bool.not_true, Bool.not_false, Int.not_lt, Int.not_le, ne_eq, Nat.not_lt, Nat.not_le] at c1
      have hB : swB pen p q = true := by simp_all [swB, allOk]
      obtain ⟨hpen, hp, hq⟩ := swB_of hB
      obtain ⟨ka, ka2, _⟩ := pen_of hpen
      refine at_skip ?_
      refine norm_then ?_
      refine at_seq ?_
      refine at_region ?_
      refine at_q rfl rfl (by decide) (qt_move rfl rfl) ?_
      refine at_q rfl rfl (by decide) (qt_loadS rfl rfl tys_impl_Pt rfl (rdAll (k := 0) rfl)) ?_
      refine at_q rfl rfl (by decide) (qt_loadS rfl rfl tys_impl_Pt rfl (rdAll (k := 1) rfl)) ?_
      refine at_op rfl ?_
      refine op_buildSlice rfl rfl (bsl_sl_impl_Pt_2_0_1 rfl rfl) rfl (by decide) (fun b5 => ?_)
      refine at_rsE (by simp only [List.nil_append, List.cons_append, List.set_cons_zero, List.set_cons_succ, Value.cells, List.toList_toArray]; rfl) ?_
      refine at_op rfl ?_
      refine op_call ok_impl_sumsOf (v := fun x => .tuple #[.slice x.1 _ x.2, .bool _]) (r := fun x => rowR 0 34 2 _ _ x) (H := fun _ => True) rfl rfl rfl (by decide) (fun w1 hs => newRowT (sumsOf_any A n c pen _ 2 2 [p, q] w1 (h.over hs.fin) (ptsCel [p, q] (k := 4) rfl rfl w1 hs) (allOk_bd ka2) (pair_bd hp hq) (by omega) (by omega))) ?_
      rintro ⟨pA, pc⟩ -
      refine at_rsE (by simp only [List.nil_append, List.cons_append, List.set_cons_zero, List.set_cons_succ, Value.cells, List.toList_toArray]; rfl) ?_
      refine at_q rfl rfl (by decide) (qt_move rfl rfl) ?_
      refine at_q rfl rfl (by decide) (qt_extract rfl rfl rfl) ?_
      refine at_q rfl rfl (by decide) (qt_extract rfl rfl rfl) ?_
      refine at_q rfl rfl (by decide) (qt_assign rfl rfl) ?_
      refine at_q rfl rfl (by decide) (qt_assign rfl rfl) ?_
      refine at_end ?_
      refine at_seq ?_
      refine at_seq ?_
      refine at_region ?_
      refine at_q rfl rfl (by decide) (qt_move rfl rfl) ?_
      refine at_q rfl rfl (by decide) (qt_not rfl rfl) ?_
      refine at_end ?_
      refine at_cond rfl (fun c2 => ?_) (fun c2 => ?_)
      · try simp only [decide_eq_true_eq, decide_eq_false_iff_not, beq_iff_eq, beq_eq_false_iff_ne, Bool.not_eq_true', Bool.not_eq_false', Bool.not_true, Bool.not_false, Int.not_lt, Int.not_le, ne_eq, Nat.not_lt, Nat.not_le] at c2
        refine at_seq ?_
        refine at_region ?_
        refine at_q rfl rfl (by decide) (qt_build rfl rfl (bld_impl_Ring_)) ?_
        refine at_op rfl ?_
        refine op_storeAll' (k := 2) rfl rfl rfl rfl (rfl) (by rfl) tyz_impl_Ring.szx rfl rfl rfl ?_
        refine at_rsE (by simp only [List.nil_append, List.cons_append, List.set_cons_zero, List.set_cons_succ, Value.cells, List.toList_toArray]; rfl) ?_
        refine at_q rfl rfl (by decide) (qt_assign rfl rfl) ?_
        refine at_end ?_
        refine at_retc ?_
        refine then_ret ?_
        refine at_ret2 rfl (rvCelS (k := 2) rfl tys_impl_Ring rfl rfl) (.tmp rfl) ?_
        intro w' hs
        obtain ⟨e1, e2⟩ := sw_out hB (by simp_all)
        exact ⟨none, 0, by rw [e1, e2]; rfl, by rw [e2]; exact OwnP.nil none, hs.fin⟩
      · try simp only [decide_eq_true_eq, decide_eq_false_iff_not, beq_iff_eq, beq_eq_false_iff_ne, Bool.not_eq_true', Bool.not_eq_false', Bool.not_true, Bool.not_false, Int.not_lt, Int.not_le, ne_eq, Nat.not_lt, Nat.not_le] at c2
        refine at_skip ?_
        refine norm_then ?_
        refine at_seq ?_
        refine at_region ?_
        refine at_q rfl rfl (by decide) (qt_move rfl rfl) ?_
        refine at_q rfl rfl (by decide) (qt_build rfl rfl (bld_impl_Ring_0 rfl)) ?_
        refine at_op rfl ?_
        refine op_storeAll' (k := 2) rfl rfl rfl rfl (rfl) (by rfl) tyz_impl_Ring.szx rfl rfl rfl ?_
        refine at_rsE (by simp only [List.nil_append, List.cons_append, List.set_cons_zero, List.set_cons_succ, Value.cells, List.toList_toArray]; rfl) ?_
        refine at_q rfl rfl (by decide) (qt_assign rfl rfl) ?_
        refine at_end ?_
        refine at_retc ?_
        refine at_ret2 rfl (rvCelS (k := 2) rfl tys_impl_Ring rfl rfl) (.tmp rfl) ?_
        intro w' hs
        obtain ⟨e1, e2⟩ := sw_yes hB (by simp_all)
        exact ⟨pA, pc, by rw [e1, e2], by rw [e2]; exact rowOwn3 hs (k := 5) rfl rfl, hs.fin⟩
theorem l12Sweep_any (A : Option Addr) (n c : Nat) (pen : List Pn) (p q : Pn) (w : World) (h : Pts w A n pen) (hpen : penB pen = true) (hp : bd2 p) (hq : bd2 q) :
    Calls Try.prog 73 #[.slice A n c, pV p, pV q] w fun e w' => ∃ x : Option Addr × Nat, e = .returned (.tuple #[.slice x.1 (hullP (smsP pen [p, q])).length x.2, .bool (allOk (hullP (smsP pen [p, q])))]) ∧ w'.ownsRow w.heap.size 34 2 (.slice x.1 (hullP (smsP pen [p, q])).length x.2) (hullP (smsP pen [p, q])).length ((hullP (smsP pen [p, q])).flatMap ptCells) ∧ Over w w' := by
  have hl := h.1
  obtain ⟨ka, ka2, _⟩ := pen_of hpen
  refine walk_from (m := 15) (Try.func73) rfl rfl (Nat.le_of_ble_eq_true rfl) ?_
  refine at_seq ?_
  refine at_region ?_
  refine at_op rfl ?_
  refine op_box rfl rfl (rfl) rfl (by decide) (fun b1 => ?_)
  refine at_rsE (by simp only [List.nil_append, List.cons_append, List.set_cons_zero, List.set_cons_succ, Value.cells, List.toList_toArray]; rfl) ?_
  refine at_op rfl ?_
  refine op_box rfl rfl (rfl) rfl (by decide) (fun b2 => ?_)
  refine at_rsE (by simp only [List.nil_append, List.cons_append, List.set_cons_zero, List.set_cons_succ, Value.cells, List.toList_toArray]; rfl) ?_
  refine at_q rfl rfl (by decide) (qt_assign rfl rfl) ?_
  refine at_q rfl rfl (by decide) (qt_assign rfl rfl) ?_
  refine at_end ?_
  refine at_seq ?_
  refine at_region ?_
  refine at_q rfl rfl (by decide) (qt_move rfl rfl) ?_
  refine at_q rfl rfl (by decide) (qt_loadS rfl rfl tys_impl_Pt rfl (rdAll (k := 0) rfl)) ?_
  refine at_q rfl rfl (by decide) (qt_loadS rfl rfl tys_impl_Pt rfl (rdAll (k := 1) rfl)) ?_
  refine at_op rfl ?_
  refine op_buildSlice rfl rfl (bsl_sl_impl_Pt_2_0_1 rfl rfl) rfl (by decide) (fun b3 => ?_)
  refine at_rsE (by simp only [List.nil_append, List.cons_append, List.set_cons_zero, List.set_cons_succ, Value.cells, List.toList_toArray]; rfl) ?_
  refine at_op rfl ?_
  refine op_call ok_spec_l11Sum (v := fun x => .tuple #[.slice x.1 _ x.2, .bool _]) (r := fun x => rowR 0 34 2 _ _ x) (H := fun _ => True) rfl rfl rfl (by decide) (fun w1 hs => newRowT (l11Sum_any A n c pen _ 2 2 [p, q] w1 (h.over hs.fin) (ptsCel [p, q] (k := 2) rfl rfl w1 hs) (allOk_bd ka2) (pair_bd hp hq) (by omega) (by omega))) ?_
  rintro ⟨pA, pc⟩ -
  refine at_rsE (by simp only [List.nil_append, List.cons_append, List.set_cons_zero, List.set_cons_succ, Value.cells, List.toList_toArray]; rfl) ?_
  refine at_q rfl rfl (by decide) (qt_extract rfl rfl rfl) ?_
  refine at_q rfl rfl (by decide) (qt_extract rfl rfl rfl) ?_
  refine at_q rfl rfl (by decide) (qt_assign rfl rfl) ?_
  refine at_q rfl rfl (by decide) (qt_assign rfl rfl) ?_
  refine at_end ?_
  refine at_retc ?_
  refine at_ret2 rfl (.tmp rfl) (.tmp rfl) ?_
  intro w' hs
  exact ⟨(pA, pc), rfl, rowBack hs (k := 3) rfl, hs.fin⟩
theorem specSweepOf_any (A : Option Addr) (n c : Nat) (pen : List Pn) (p q : Pn) (w : World) (h : Pts w A n pen) (hn : (n : Int) ≤ 1048576) :
    Calls Try.prog 32 #[.slice A n c, pV p, pV q] w fun e w' => ∃ A' c', e = .returned (.tuple #[ringV A' (swR pen p q).length c', .int .i64 (swC pen p q)]) ∧ OwnP w.heap.size w'.heap.size w' A' (swR pen p q).length (swR pen p q) ∧ Over w w' := by
  have hl := h.1
  refine walk_from (m := 36) (Try.func32) rfl rfl (Nat.le_of_ble_eq_true rfl) ?_
  refine at_seq ?_
  refine at_region ?_
  refine at_op rfl ?_
  refine op_box rfl rfl (rfl) rfl (by decide) (fun b1 => ?_)
  refine at_rsE (by simp only [List.nil_append, List.cons_append, List.set_cons_zero, List.set_cons_succ, Value.cells, List.toList_toArray]; rfl) ?_
  refine at_op rfl ?_
  refine op_box rfl rfl (rfl) rfl (by decide) (fun b2 => ?_)
  refine at_rsE (by simp only [List.nil_append, List.cons_append, List.set_cons_zero, List.set_cons_succ, Value.cells, List.toList_toArray]; rfl) ?_
  refine at_op rfl ?_
  refine op_alloc rfl tyz_impl_Ring rfl (by decide) (fun b3 => ?_)
  refine at_rsE (by simp only [List.nil_append, List.cons_append, List.set_cons_zero, List.set_cons_succ, Value.cells, List.toList_toArray]; rfl) ?_
  refine at_q rfl rfl (by decide) (qt_assign rfl rfl) ?_
  refine at_end ?_
  refine at_seq ?_
  refine at_seq ?_
  refine at_region ?_
  refine at_q rfl rfl (by decide) (qt_move rfl rfl) ?_
  refine at_q rfl rfl (by decide) (qt_call ok_spec_l11Pen rfl rfl (fun w1 hs => l11Pen_any A n c pen w1 (h.over hs.fin) hn)) ?_
  refine at_q rfl rfl (by decide) (qt_not rfl rfl) ?_
  refine at_q rfl rfl (by decide) (qt_move rfl rfl) ?_
  refine at_bsplit 13 rfl (fun g1 => ?_) (fun g1 => ?_)
  · try simp only [decide_eq_true_eq, decide_eq_false_iff_not, beq_iff_eq, beq_eq_false_iff_ne, Bool.not_eq_true', Bool.not_eq_false', Bool.not_true, Bool.not_false, Int.not_lt, Int.not_le, ne_eq, Nat.not_lt, Nat.not_le] at g1
    refine at_off rfl rfl rfl rfl (by decide) rfl (by decide) ?_
    refine at_off rfl rfl rfl rfl (by decide) rfl (by decide) ?_
    refine at_off rfl rfl rfl rfl (by decide) rfl (by decide) ?_
    refine at_q rfl rfl (by decide) (qt_pickT rfl rfl rfl) ?_
    refine at_q rfl rfl (by decide) (qt_move rfl rfl) ?_
    refine at_off rfl rfl rfl rfl (by decide) rfl (by decide) ?_
    refine at_off rfl rfl rfl rfl (by decide) rfl (by decide) ?_
    refine at_off rfl rfl rfl rfl (by decide) rfl (by decide) ?_
    refine at_q rfl rfl (by decide) (qt_pickT rfl rfl rfl) ?_
    refine at_end ?_
    refine at_yes rfl rfl ?_
    refine at_seq ?_
    refine at_region ?_
    refine at_q rfl rfl (by decide) (qt_build rfl rfl (bld_impl_Ring_)) ?_
    refine at_op rfl ?_
    refine op_storeAll' (k := 2) rfl rfl rfl rfl (rfl) (by rfl) tyz_impl_Ring.szx rfl rfl rfl ?_
    refine at_rsE (by simp only [List.nil_append, List.cons_append, List.set_cons_zero, List.set_cons_succ, Value.cells, List.toList_toArray]; rfl) ?_
    refine at_q rfl rfl (by decide) (qt_assign rfl rfl) ?_
    refine at_end ?_
    refine at_retc ?_
    refine then_ret ?_
    refine at_ret2 rfl (rvCelS (k := 2) rfl tys_impl_Ring rfl rfl) (.tmp rfl) ?_
    intro w' hs
    obtain ⟨e1, e2⟩ := sw_no (pen := pen) (p := p) (q := q) (by simp_all [swB])
    exact ⟨none, 0, by rw [e1, e2]; rfl, by rw [e2]; exact OwnP.nil none, hs.fin⟩
  · try simp only [decide_eq_true_eq, decide_eq_false_iff_not, beq_iff_eq, beq_eq_false_iff_ne, Bool.not_eq_true', Bool.not_eq_false', Bool.not_true, Bool.not_false, Int.not_lt, Int.not_le, ne_eq, Nat.not_lt, Nat.not_le] at g1
    refine at_on rfl rfl rfl rfl ?_
    refine op_q rfl (by decide) (qt_loadS rfl rfl tys_impl_Pt rfl (rdAll (k := 0) rfl)) ?_
    refine at_on rfl rfl rfl rfl ?_
    refine op_q rfl (by decide) (qt_call ok_spec_l03Ok rfl rfl (fun w1 hs => l03Ok_any p.1 p.2 w1)) ?_
    refine at_on rfl rfl rfl rfl ?_
    refine op_q rfl (by decide) (qt_not rfl rfl) ?_
    refine at_q rfl rfl (by decide) (qt_pickF rfl rfl rfl) ?_
    refine at_q rfl rfl (by decide) (qt_move rfl rfl) ?_
    refine at_bsplit 18 rfl (fun g2 => ?_) (fun g2 => ?_)
    · try simp only [decide_eq_true_eq, decide_eq_false_iff_not, beq_iff_eq, beq_eq_false_iff_ne, Bool.not_eq_true', Bool.not_eq_false', Bool.not_true, Bool.not_false, Int.not_lt, Int.not_le, ne_eq, Nat.not_lt, Nat.not_le] at g2
      refine at_off rfl rfl rfl rfl (by decide) rfl (by decide) ?_
      refine at_off rfl rfl rfl rfl (by decide) rfl (by decide) ?_
      refine at_off rfl rfl rfl rfl (by decide) rfl (by decide) ?_
      refine at_q rfl rfl (by decide) (qt_pickT rfl rfl rfl) ?_
      refine at_end ?_
      refine at_yes rfl rfl ?_
      refine at_seq ?_
      refine at_region ?_
      refine at_q rfl rfl (by decide) (qt_build rfl rfl (bld_impl_Ring_)) ?_
      refine at_op rfl ?_
      refine op_storeAll' (k := 2) rfl rfl rfl rfl (rfl) (by rfl) tyz_impl_Ring.szx rfl rfl rfl ?_
      refine at_rsE (by simp only [List.nil_append, List.cons_append, List.set_cons_zero, List.set_cons_succ, Value.cells, List.toList_toArray]; rfl) ?_
      refine at_q rfl rfl (by decide) (qt_assign rfl rfl) ?_
      refine at_end ?_
      refine at_retc ?_
      refine then_ret ?_
      refine at_ret2 rfl (rvCelS (k := 2) rfl tys_impl_Ring rfl rfl) (.tmp rfl) ?_
      intro w' hs
      obtain ⟨e1, e2⟩ := sw_no (pen := pen) (p := p) (q := q) (by simp_all [swB])
      exact ⟨none, 0, by rw [e1, e2]; rfl, by rw [e2]; exact OwnP.nil none, hs.fin⟩
    · try simp only [decide_eq_true_eq, decide_eq_false_iff_not, beq_iff_eq, beq_eq_false_iff_ne, Bool.not_eq_true', Bool.not_eq_false', Bool.not_true, Bool.not_false, Int.not_lt, Int.not_le, ne_eq, Nat.not_lt, Nat.not_le] at g2
      refine at_on rfl rfl rfl rfl ?_
      refine op_q rfl (by decide) (qt_loadS rfl rfl tys_impl_Pt rfl (rdAll (k := 1) rfl)) ?_
      refine at_on rfl rfl rfl rfl ?_
      refine op_q rfl (by decide) (qt_call ok_spec_l03Ok rfl rfl (fun w1 hs => l03Ok_any q.1 q.2 w1)) ?_
      refine at_on rfl rfl rfl rfl ?_
      refine op_q rfl (by decide) (qt_not rfl rfl) ?_
      refine at_q rfl rfl (by decide) (qt_pickF rfl rfl rfl) ?_
      refine at_end ?_
      refine at_cond rfl (fun c1 => ?_) (fun c1 => ?_)
      · try simp only [decide_eq_true_eq, decide_eq_false_iff_not, beq_iff_eq, beq_eq_false_iff_ne, Bool.not_eq_true', Bool.not_eq_false', Bool.not_true, Bool.not_false, Int.not_lt, Int.not_le, ne_eq, Nat.not_lt, Nat.not_le] at c1
        refine at_seq ?_
        refine at_region ?_
        refine at_q rfl rfl (by decide) (qt_build rfl rfl (bld_impl_Ring_)) ?_
        refine at_op rfl ?_
        refine op_storeAll' (k := 2) rfl rfl rfl rfl (rfl) (by rfl) tyz_impl_Ring.szx rfl rfl rfl ?_
        refine at_rsE (by simp only [List.nil_append, List.cons_append, List.set_cons_zero, List.set_cons_succ, Value.cells, List.toList_toArray]; rfl) ?_
        refine at_q rfl rfl (by decide) (qt_assign rfl rfl) ?_
        refine at_end ?_
        refine at_retc ?_
        refine then_ret ?_
        refine at_ret2 rfl (rvCelS (k := 2) rfl tys_impl_Ring rfl rfl) (.tmp rfl) ?_
        intro w' hs
        obtain ⟨e1, e2⟩ := sw_no (pen := pen) (p := p) (q := q) (by simp_all [swB])
        exact ⟨none, 0, by rw [e1, e2]; rfl, by rw [e2]; exact OwnP.nil none, hs.fin⟩
      · try simp only [decide_eq_true_eq, decide_eq_false_iff_not, beq_iff_eq, beq_eq_false_iff_ne, Bool.not_eq_true', Bool.not_eq_false', Bool.not_true, Bool.not_false, Int.not_lt, Int.not_le, ne_eq, Nat.not_lt, Nat.not_le] at c1
        have hB : swB pen p q = true := by simp_all [swB]
        obtain ⟨hpen, hp, hq⟩ := swB_of hB
        refine at_skip ?_
        refine norm_then ?_
        refine at_seq ?_
        refine at_region ?_
        refine at_q rfl rfl (by decide) (qt_move rfl rfl) ?_
        refine at_q rfl rfl (by decide) (qt_loadS rfl rfl tys_impl_Pt rfl (rdAll (k := 0) rfl)) ?_
        refine at_q rfl rfl (by decide) (qt_loadS rfl rfl tys_impl_Pt rfl (rdAll (k := 1) rfl)) ?_
        refine at_op rfl ?_
        refine op_call ok_spec_l12Sweep (v := fun x => .tuple #[.slice x.1 _ x.2, .bool _]) (r := fun x => rowR 0 34 2 _ _ x) (H := fun _ => True) rfl rfl rfl (by decide) (fun w1 hs => newRowT (l12Sweep_any A n c pen p q w1 (h.over hs.fin) hpen hp hq)) ?_
        rintro ⟨pA, pc⟩ -
        refine at_rsE (by simp only [List.nil_append, List.cons_append, List.set_cons_zero, List.set_cons_succ, Value.cells, List.toList_toArray]; rfl) ?_
        refine at_q rfl rfl (by decide) (qt_move rfl rfl) ?_
        refine at_q rfl rfl (by decide) (qt_extract rfl rfl rfl) ?_
        refine at_q rfl rfl (by decide) (qt_extract rfl rfl rfl) ?_
        refine at_q rfl rfl (by decide) (qt_assign rfl rfl) ?_
        refine at_q rfl rfl (by decide) (qt_assign rfl rfl) ?_
        refine at_end ?_
        refine at_seq ?_
        refine at_seq ?_
        refine at_region ?_
        refine at_q rfl rfl (by decide) (qt_move rfl rfl) ?_
        refine at_q rfl rfl (by decide) (qt_not rfl rfl) ?_
        refine at_end ?_
        refine at_cond rfl (fun c2 => ?_) (fun c2 => ?_)
        · try simp only [decide_eq_true_eq, decide_eq_false_iff_not, beq_iff_eq, beq_eq_false_iff_ne, Bool.not_eq_true', Bool.not_eq_false', Bool.not_true, Bool.not_false, Int.not_lt, Int.not_le, ne_eq, Nat.not_lt, Nat.not_le] at c2
          refine at_seq ?_
          refine at_region ?_
          refine at_q rfl rfl (by decide) (qt_build rfl rfl (bld_impl_Ring_)) ?_
          refine at_op rfl ?_
          refine op_storeAll' (k := 2) rfl rfl rfl rfl (rfl) (by rfl) tyz_impl_Ring.szx rfl rfl rfl ?_
          refine at_rsE (by simp only [List.nil_append, List.cons_append, List.set_cons_zero, List.set_cons_succ, Value.cells, List.toList_toArray]; rfl) ?_
          refine at_q rfl rfl (by decide) (qt_assign rfl rfl) ?_
          refine at_end ?_
          refine at_retc ?_
          refine then_ret ?_
          refine at_ret2 rfl (rvCelS (k := 2) rfl tys_impl_Ring rfl rfl) (.tmp rfl) ?_
          intro w' hs
          obtain ⟨e1, e2⟩ := sw_out hB (by simp_all)
          exact ⟨none, 0, by rw [e1, e2]; rfl, by rw [e2]; exact OwnP.nil none, hs.fin⟩
        · try simp only [decide_eq_true_eq, decide_eq_false_iff_not, beq_iff_eq, beq_eq_false_iff_ne, Bool.not_eq_true', Bool.not_eq_false', Bool.not_true, Bool.not_false, Int.not_lt, Int.not_le, ne_eq, Nat.not_lt, Nat.not_le] at c2
          refine at_skip ?_
          refine norm_then ?_
          refine at_seq ?_
          refine at_region ?_
          refine at_q rfl rfl (by decide) (qt_move rfl rfl) ?_
          refine at_q rfl rfl (by decide) (qt_build rfl rfl (bld_impl_Ring_0 rfl)) ?_
          refine at_op rfl ?_
          refine op_storeAll' (k := 2) rfl rfl rfl rfl (rfl) (by rfl) tyz_impl_Ring.szx rfl rfl rfl ?_
          refine at_rsE (by simp only [List.nil_append, List.cons_append, List.set_cons_zero, List.set_cons_succ, Value.cells, List.toList_toArray]; rfl) ?_
          refine at_q rfl rfl (by decide) (qt_assign rfl rfl) ?_
          refine at_end ?_
          refine at_retc ?_
          refine at_ret2 rfl (rvCelS (k := 2) rfl tys_impl_Ring rfl rfl) (.tmp rfl) ?_
          intro w' hs
          obtain ⟨e1, e2⟩ := sw_yes hB (by simp_all)
          exact ⟨pA, pc, by rw [e1, e2], by rw [e2]; exact rowOwn3 hs (k := 3) rfl rfl, hs.fin⟩
/-! ### Bounds of strokes -/
def sbLo (a b : List Pn) : Pn := (loX a a.length + loX b b.length, loY a a.length + loY b b.length)
def sbHi (a b : List Pn) : Pn := (hiX a a.length + hiX b b.length, hiY a a.length + hiY b b.length)
def sbC (a b : List Pn) : Int := if (penB a && ringB b) = true then (if (okB (sbLo a b).1 (sbLo a b).2 && okB (sbHi a b).1 (sbHi a b).2) = true then 0 else 2) else 1
def sbP (a b : List Pn) (p : Pn) : Pn := if sbC a b = 0 then p else (0, 0)
def sbV (a b : List Pn) : Value := .tuple #[pV (sbP a b (sbLo a b)), pV (sbP a b (sbHi a b)), .int .i64 (sbC a b)]
theorem sb_no {a b : List Pn} (h : (penB a && ringB b) = false) : sbV a b = .tuple #[ptV 0 0, ptV 0 0, .int .i64 1] := by simp [sbV, sbP, sbC, h]
theorem sb_out {a b : List Pn} (h : (penB a && ringB b) = true) (h2 : (okB (sbLo a b).1 (sbLo a b).2 && okB (sbHi a b).1 (sbHi a b).2) = false) : sbV a b = .tuple #[ptV 0 0, ptV 0 0, .int .i64 2] := by
  have : sbC a b = 2 := by unfold sbC; rw [if_pos h, if_neg (by rw [h2]; decide)]
  simp [sbV, sbP, this]
theorem sb_yes {a b : List Pn} (h : (penB a && ringB b) = true) (h2 : (okB (sbLo a b).1 (sbLo a b).2 && okB (sbHi a b).1 (sbHi a b).2) = true) : sbV a b = .tuple #[pV (sbLo a b), pV (sbHi a b), .int .i64 0] := by
  have : sbC a b = 0 := by unfold sbC; rw [if_pos h, if_pos h2]
  simp [sbV, sbP, this]
theorem lo_in {g : Pn → Int} {B : Int} : ∀ (xs : List Pn) (k : Nat), 1 ≤ k → k ≤ xs.length → (∀ p ∈ xs, bd2 p) → bd2 (loX xs k, loY xs k) ∧ bd2 (hiX xs k, hiY xs k)
  | xs, 1, _, hk, h => by
    have hb := h _ (pt_mem (show 0 < xs.length by omega))
    obtain ⟨e1, e2, e3, e4⟩ := bds_one xs
    rw [e1, e2, e3, e4]
    exact ⟨hb, hb⟩
  | xs, k + 2, _, hk, h => by
    obtain ⟨h1, h2⟩ := lo_in (g := g) (B := B) xs (k + 1) (by omega) (by omega) h
    have hb := h _ (pt_mem (show k + 1 < xs.length by omega))
    obtain ⟨e1, e2, e3, e4⟩ := bds_succ xs (k := k + 1) (by omega)
    rw [e1, e2, e3, e4]
    simp only [bd2, pt] at *
    omega
theorem bds_in {xs : List Pn} {n : Nat} (hn : xs.length = n) (h1 : 1 ≤ n) (h : ∀ p ∈ xs, bd2 p) : bd2 (loX xs n, loY xs n) ∧ bd2 (hiX xs n, hiY xs n) := lo_in (g := fun _ => 0) (B := 0) xs n h1 (by omega) h
theorem ring_in {xs : List Pn} (h : ringB xs = true) : (1 ≤ xs.length ∧ xs.length ≤ 400) ∧ ∀ p ∈ xs, bd2 p := by
  have h1 := pos_of_ring h
  refine ⟨by omega, (okPts.of h).2⟩
theorem l12Path_any (A : Option Addr) (n c : Nat) (xs : List Pn) (w : World) (h : Pts w A n xs) (hn : (n : Int) ≤ 1048577) :
    Calls Try.prog 58 #[.slice A n c] w fun e w' => e = .returned (.bool (ringB xs)) ∧ Over w w' := by
  have hl := h.1
  have hr : ringB xs = (inB (n : Int) 1 400 && allOk xs) := by rw [ringB, hl]
  refine walk_from (m := 10) (Try.func58) rfl rfl (Nat.le_of_ble_eq_true rfl) ?_
  refine at_seq ?_
  refine at_region ?_
  refine at_q rfl rfl (by decide) (qt_assign rfl rfl) ?_
  refine at_end ?_
  refine at_seq ?_
  refine at_region ?_
  refine at_q rfl rfl (by decide) (qt_move rfl rfl) ?_
  refine at_q rfl rfl (by decide) (qt_len rfl rfl tyl_sl_impl_Pt) ?_
  refine at_q rfl rfl (by decide) (qt_call ok_spec_l00In rfl rfl (fun w1 hs => Calls.still (l00In_any _ _ _ w1))) ?_
  refine at_q rfl rfl (by decide) (qt_move rfl rfl) ?_
  refine at_bsplit 6 rfl (fun g1 => ?_) (fun g1 => ?_)
  · try simp only [decide_eq_true_eq, decide_eq_false_iff_not, beq_iff_eq, beq_eq_false_iff_ne, Bool.not_eq_true', Bool.not_eq_false', Bool.not_true, Bool.not_false, Int.not_lt, Int.not_le, ne_eq, Nat.not_lt, Nat.not_le] at g1
    refine at_on rfl rfl rfl rfl ?_
    refine op_q rfl (by decide) (qt_move rfl rfl) ?_
    refine at_on rfl rfl rfl rfl ?_
    refine op_q rfl (by decide) (qt_call ok_spec_l13Points rfl rfl (fun w1 hs => l13Points_any A n c xs w1 (h.over hs.fin) hn)) ?_
    refine at_q rfl rfl (by decide) (qt_pickT rfl rfl rfl) ?_
    refine at_q rfl rfl (by decide) (qt_assign rfl rfl) ?_
    refine at_end ?_
    refine at_retc ?_
    refine at_ret1 rfl (.tmp rfl) ?_
    intro w' hs
    exact ⟨retB (by rw [hr]; simp [*]), hs.fin⟩
  · try simp only [decide_eq_true_eq, decide_eq_false_iff_not, beq_iff_eq, beq_eq_false_iff_ne, Bool.not_eq_true', Bool.not_eq_false', Bool.not_true, Bool.not_false, Int.not_lt, Int.not_le, ne_eq, Nat.not_lt, Nat.not_le] at g1
    refine at_off rfl rfl rfl rfl (by decide) rfl (by decide) ?_
    refine at_off rfl rfl rfl rfl (by decide) rfl (by decide) ?_
    refine at_q rfl rfl (by decide) (qt_pickF rfl rfl rfl) ?_
    refine at_q rfl rfl (by decide) (qt_assign rfl rfl) ?_
    refine at_end ?_
    refine at_retc ?_
    refine at_ret1 rfl (.tmp rfl) ?_
    intro w' hs
    exact ⟨retB (by rw [hr]; simp [*]), hs.fin⟩
theorem specStrokeBounds_any (A : Option Addr) (n c : Nat) (a : List Pn) (B : Option Addr) (m d : Nat) (b : List Pn) (w : World) (h : Pts w A n a) (h2 : Pts w B m b) (hn : (n : Int) ≤ 1048576) (hm : (m : Int) ≤ 1048576) :
    Calls Try.prog 23 #[.slice A n c, .slice B m d] w fun e w' => e = .returned (sbV a b) ∧ Over w w' := by
  have hl := h.1
  have hl2 := h2.1
  have eL : sbLo a b = (loX a n + loX b m, loY a n + loY b m) := by rw [sbLo, hl, hl2]
  have eH : sbHi a b = (hiX a n + hiX b m, hiY a n + hiY b m) := by rw [sbHi, hl, hl2]
  refine walk_from (m := 51) (Try.func23) rfl rfl (Nat.le_of_ble_eq_true rfl) ?_
  refine at_seq ?_
  refine at_region ?_
  refine at_op rfl ?_
  refine op_alloc rfl tyz_impl_Pt rfl (by decide) (fun b1 => ?_)
  refine at_rsE (by simp only [List.nil_append, List.cons_append, List.set_cons_zero, List.set_cons_succ, Value.cells, List.toList_toArray]; rfl) ?_
  refine at_op rfl ?_
  refine op_alloc rfl tyz_impl_Pt rfl (by decide) (fun b2 => ?_)
  refine at_rsE (by simp only [List.nil_append, List.cons_append, List.set_cons_zero, List.set_cons_succ, Value.cells, List.toList_toArray]; rfl) ?_
  refine at_q rfl rfl (by decide) (qt_assign rfl rfl) ?_
  refine at_end ?_
  refine at_seq ?_
  refine at_seq ?_
  refine at_region ?_
  refine at_q rfl rfl (by decide) (qt_move rfl rfl) ?_
  refine at_q rfl rfl (by decide) (qt_call ok_spec_l11Pen rfl rfl (fun w1 hs => l11Pen_any A n c a w1 (h.over hs.fin) hn)) ?_
  refine at_q rfl rfl (by decide) (qt_not rfl rfl) ?_
  refine at_q rfl rfl (by decide) (qt_move rfl rfl) ?_
  refine at_bsplit 16 rfl (fun g1 => ?_) (fun g1 => ?_)
  · try simp only [decide_eq_true_eq, decide_eq_false_iff_not, beq_iff_eq, beq_eq_false_iff_ne, Bool.not_eq_true', Bool.not_eq_false', Bool.not_true, Bool.not_false, Int.not_lt, Int.not_le, ne_eq, Nat.not_lt, Nat.not_le] at g1
    refine at_off rfl rfl rfl rfl (by decide) rfl (by decide) ?_
    refine at_off rfl rfl rfl rfl (by decide) rfl (by decide) ?_
    refine at_off rfl rfl rfl rfl (by decide) rfl (by decide) ?_
    refine at_q rfl rfl (by decide) (qt_pickT rfl rfl rfl) ?_
    refine at_end ?_
    refine at_yes rfl rfl ?_
    refine at_seq ?_
    refine at_region ?_
    refine at_q rfl rfl (by decide) (qt_build rfl rfl (bld_impl_Pt_)) ?_
    refine at_q rfl rfl (by decide) (qt_build rfl rfl (bld_impl_Pt_)) ?_
    refine at_op rfl ?_
    refine op_storeAll' (k := 0) rfl rfl rfl rfl (rfl) (by rfl) tyz_impl_Pt.szx rfl rfl rfl ?_
    refine at_rsE (by simp only [List.nil_append, List.cons_append, List.set_cons_zero, List.set_cons_succ, Value.cells, List.toList_toArray]; rfl) ?_
    refine at_op rfl ?_
    refine op_storeAll' (k := 1) rfl rfl rfl rfl (rfl) (by rfl) tyz_impl_Pt.szx rfl rfl rfl ?_
    refine at_rsE (by simp only [List.nil_append, List.cons_append, List.set_cons_zero, List.set_cons_succ, Value.cells, List.toList_toArray]; rfl) ?_
    refine at_q rfl rfl (by decide) (qt_assign rfl rfl) ?_
    refine at_end ?_
    refine at_retc ?_
    refine then_ret ?_
    refine at_ret3 rfl (rvCelS (k := 0) rfl tys_impl_Pt rfl rfl) (rvCelS (k := 1) rfl tys_impl_Pt rfl rfl) (.tmp rfl) ?_
    intro w' hs
    exact ⟨by rw [sb_no (by simp_all)], hs.fin⟩
  · try simp only [decide_eq_true_eq, decide_eq_false_iff_not, beq_iff_eq, beq_eq_false_iff_ne, Bool.not_eq_true', Bool.not_eq_false', Bool.not_true, Bool.not_false, Int.not_lt, Int.not_le, ne_eq, Nat.not_lt, Nat.not_le] at g1
    refine at_on rfl rfl rfl rfl ?_
    refine op_q rfl (by decide) (qt_move rfl rfl) ?_
    refine at_on rfl rfl rfl rfl ?_
    refine op_q rfl (by decide) (qt_call ok_spec_l12Path rfl rfl (fun w1 hs => l12Path_any B m d b w1 (h2.over hs.fin) (by omega))) ?_
    refine at_on rfl rfl rfl rfl ?_
    refine op_q rfl (by decide) (qt_not rfl rfl) ?_
    refine at_q rfl rfl (by decide) (qt_pickF rfl rfl rfl) ?_
    refine at_end ?_
    refine at_cond rfl (fun c1 => ?_) (fun c1 => ?_)
    · try simp only [decide_eq_true_eq, decide_eq_false_iff_not, beq_iff_eq, beq_eq_false_iff_ne, Bool.not_eq_true', Bool.not_eq_false', Bool.not_true, Bool.not_false, Int.not_lt, Int.not_le, ne_eq, Nat.not_lt, Nat.not_le] at c1
      refine at_seq ?_
      refine at_region ?_
      refine at_q rfl rfl (by decide) (qt_build rfl rfl (bld_impl_Pt_)) ?_
      refine at_q rfl rfl (by decide) (qt_build rfl rfl (bld_impl_Pt_)) ?_
      refine at_op rfl ?_
      refine op_storeAll' (k := 0) rfl rfl rfl rfl (rfl) (by rfl) tyz_impl_Pt.szx rfl rfl rfl ?_
      refine at_rsE (by simp only [List.nil_append, List.cons_append, List.set_cons_zero, List.set_cons_succ, Value.cells, List.toList_toArray]; rfl) ?_
      refine at_op rfl ?_
      refine op_storeAll' (k := 1) rfl rfl rfl rfl (rfl) (by rfl) tyz_impl_Pt.szx rfl rfl rfl ?_
      refine at_rsE (by simp only [List.nil_append, List.cons_append, List.set_cons_zero, List.set_cons_succ, Value.cells, List.toList_toArray]; rfl) ?_
      refine at_q rfl rfl (by decide) (qt_assign rfl rfl) ?_
      refine at_end ?_
      refine at_retc ?_
      refine then_ret ?_
      refine at_ret3 rfl (rvCelS (k := 0) rfl tys_impl_Pt rfl rfl) (rvCelS (k := 1) rfl tys_impl_Pt rfl rfl) (.tmp rfl) ?_
      intro w' hs
      exact ⟨by rw [sb_no (by simp_all)], hs.fin⟩
    · try simp only [decide_eq_true_eq, decide_eq_false_iff_not, beq_iff_eq, beq_eq_false_iff_ne, Bool.not_eq_true', Bool.not_eq_false', Bool.not_true, Bool.not_false, Int.not_lt, Int.not_le, ne_eq, Nat.not_lt, Nat.not_le] at c1
      have hpa : penB a = true := by simp_all
      have hpb : ringB b = true := by simp_all
      have hB : (penB a && ringB b) = true := by rw [hpa, hpb]; rfl
      obtain ⟨ka, ka2, _⟩ := pen_of hpa
      obtain ⟨kb, kb2⟩ := ring_in hpb
      obtain ⟨X1, X2⟩ := bds_in hl (by omega) (allOk_bd ka2)
      obtain ⟨Y1, Y2⟩ := bds_in hl2 (by omega) kb2
      refine at_skip ?_
      refine norm_then ?_
      refine at_seq ?_
      refine at_region ?_
      refine at_q rfl rfl (by decide) (qt_move rfl rfl) ?_
      refine at_q rfl rfl (by decide) (qt_call ok_spec_l09Corners rfl rfl (fun w1 hs => l09Corners_any A n c a w1 (h.over hs.fin) hn (by omega))) ?_
      refine at_q rfl rfl (by decide) (qt_move rfl rfl) ?_
      refine at_q rfl rfl (by decide) (qt_extract rfl rfl rfl) ?_
      refine at_q rfl rfl (by decide) (qt_extract rfl rfl rfl) ?_
      refine at_op rfl ?_
      refine op_alloc rfl tyz_impl_Pt rfl (by decide) (fun b3 => ?_)
      refine at_rsE (by simp only [List.nil_append, List.cons_append, List.set_cons_zero, List.set_cons_succ, Value.cells, List.toList_toArray]; rfl) ?_
      refine at_op rfl ?_
      refine op_alloc rfl tyz_impl_Pt rfl (by decide) (fun b4 => ?_)
      refine at_rsE (by simp only [List.nil_append, List.cons_append, List.set_cons_zero, List.set_cons_succ, Value.cells, List.toList_toArray]; rfl) ?_
      refine at_op rfl ?_
      refine op_storeAll' (k := 2) rfl rfl rfl rfl (rfl) (by rfl) tyz_impl_Pt.szx rfl rfl rfl ?_
      refine at_rsE (by simp only [List.nil_append, List.cons_append, List.set_cons_zero, List.set_cons_succ, Value.cells, List.toList_toArray]; rfl) ?_
      refine at_op rfl ?_
      refine op_storeAll' (k := 3) rfl rfl rfl rfl (rfl) (by rfl) tyz_impl_Pt.szx rfl rfl rfl ?_
      refine at_rsE (by simp only [List.nil_append, List.cons_append, List.set_cons_zero, List.set_cons_succ, Value.cells, List.toList_toArray]; rfl) ?_
      refine at_end ?_
      refine at_seq ?_
      refine at_region ?_
      refine at_q rfl rfl (by decide) (qt_move rfl rfl) ?_
      refine at_q rfl rfl (by decide) (qt_call ok_spec_l09Corners rfl rfl (fun w1 hs => l09Corners_any B m d b w1 (h2.over hs.fin) hm (by omega))) ?_
      refine at_q rfl rfl (by decide) (qt_move rfl rfl) ?_
      refine at_q rfl rfl (by decide) (qt_extract rfl rfl rfl) ?_
      refine at_q rfl rfl (by decide) (qt_extract rfl rfl rfl) ?_
      refine at_op rfl ?_
      refine op_alloc rfl tyz_impl_Pt rfl (by decide) (fun b5 => ?_)
      refine at_rsE (by simp only [List.nil_append, List.cons_append, List.set_cons_zero, List.set_cons_succ, Value.cells, List.toList_toArray]; rfl) ?_
      refine at_op rfl ?_
      refine op_alloc rfl tyz_impl_Pt rfl (by decide) (fun b6 => ?_)
      refine at_rsE (by simp only [List.nil_append, List.cons_append, List.set_cons_zero, List.set_cons_succ, Value.cells, List.toList_toArray]; rfl) ?_
      refine at_op rfl ?_
      refine op_storeAll' (k := 4) rfl rfl rfl rfl (rfl) (by rfl) tyz_impl_Pt.szx rfl rfl rfl ?_
      refine at_rsE (by simp only [List.nil_append, List.cons_append, List.set_cons_zero, List.set_cons_succ, Value.cells, List.toList_toArray]; rfl) ?_
      refine at_op rfl ?_
      refine op_storeAll' (k := 5) rfl rfl rfl rfl (rfl) (by rfl) tyz_impl_Pt.szx rfl rfl rfl ?_
      refine at_rsE (by simp only [List.nil_append, List.cons_append, List.set_cons_zero, List.set_cons_succ, Value.cells, List.toList_toArray]; rfl) ?_
      refine at_end ?_
      refine at_seq ?_
      refine at_region ?_
      refine at_q rfl rfl (by decide) (qt_loadS rfl rfl tys_impl_Pt rfl (rdAll (k := 2) rfl)) ?_
      refine at_q rfl rfl (by decide) (qt_loadS rfl rfl tys_impl_Pt rfl (rdAll (k := 4) rfl)) ?_
      refine at_q rfl rfl (by decide) (qt_call ok_spec_l09Sum rfl rfl (fun w1 hs => l09Sum_any (loX a n, loY a n) (loX b m, loY b m) w1 X1 Y1)) ?_
      refine at_op rfl ?_
      refine op_alloc rfl tyz_impl_Pt rfl (by decide) (fun b7 => ?_)
      refine at_rsE (by simp only [List.nil_append, List.cons_append, List.set_cons_zero, List.set_cons_succ, Value.cells, List.toList_toArray]; rfl) ?_
      refine at_op rfl ?_
      refine op_storeAll' (k := 6) rfl rfl rfl rfl (rfl) (by rfl) tyz_impl_Pt.szx rfl rfl rfl ?_
      refine at_rsE (by simp only [List.nil_append, List.cons_append, List.set_cons_zero, List.set_cons_succ, Value.cells, List.toList_toArray]; rfl) ?_
      refine at_end ?_
      refine at_seq ?_
      refine at_region ?_
      refine at_q rfl rfl (by decide) (qt_loadS rfl rfl tys_impl_Pt rfl (rdAll (k := 3) rfl)) ?_
      refine at_q rfl rfl (by decide) (qt_loadS rfl rfl tys_impl_Pt rfl (rdAll (k := 5) rfl)) ?_
      refine at_q rfl rfl (by decide) (qt_call ok_spec_l09Sum rfl rfl (fun w1 hs => l09Sum_any (hiX a n, hiY a n) (hiX b m, hiY b m) w1 X2 Y2)) ?_
      refine at_op rfl ?_
      refine op_alloc rfl tyz_impl_Pt rfl (by decide) (fun b8 => ?_)
      refine at_rsE (by simp only [List.nil_append, List.cons_append, List.set_cons_zero, List.set_cons_succ, Value.cells, List.toList_toArray]; rfl) ?_
      refine at_op rfl ?_
      refine op_storeAll' (k := 7) rfl rfl rfl rfl (rfl) (by rfl) tyz_impl_Pt.szx rfl rfl rfl ?_
      refine at_rsE (by simp only [List.nil_append, List.cons_append, List.set_cons_zero, List.set_cons_succ, Value.cells, List.toList_toArray]; rfl) ?_
      refine at_end ?_
      refine at_seq ?_
      refine at_seq ?_
      refine at_region ?_
      refine at_q rfl rfl (by decide) (qt_loadS rfl rfl tys_impl_Pt rfl (rdAll (k := 6) rfl)) ?_
      refine at_q rfl rfl (by decide) (qt_call ok_spec_l03Ok rfl rfl (fun w1 hs => l03Ok_any (loX a n + loX b m) (loY a n + loY b m) w1)) ?_
      refine at_q rfl rfl (by decide) (qt_not rfl rfl) ?_
      refine at_q rfl rfl (by decide) (qt_move rfl rfl) ?_
      refine at_bsplit 42 rfl (fun g2 => ?_) (fun g2 => ?_)
      · try simp only [decide_eq_true_eq, decide_eq_false_iff_not, beq_iff_eq, beq_eq_false_iff_ne, Bool.not_eq_true', Bool.not_eq_false', Bool.not_true, Bool.not_false, Int.not_lt, Int.not_le, ne_eq, Nat.not_lt, Nat.not_le] at g2
        refine at_off rfl rfl rfl rfl (by decide) rfl (by decide) ?_
        refine at_off rfl rfl rfl rfl (by decide) rfl (by decide) ?_
        refine at_off rfl rfl rfl rfl (by decide) rfl (by decide) ?_
        refine at_q rfl rfl (by decide) (qt_pickT rfl rfl rfl) ?_
        refine at_end ?_
        refine at_yes rfl rfl ?_
        refine at_seq ?_
        refine at_region ?_
        refine at_q rfl rfl (by decide) (qt_build rfl rfl (bld_impl_Pt_)) ?_
        refine at_q rfl rfl (by decide) (qt_build rfl rfl (bld_impl_Pt_)) ?_
        refine at_op rfl ?_
        refine op_storeAll' (k := 0) rfl rfl rfl rfl (rfl) (by rfl) tyz_impl_Pt.szx rfl rfl rfl ?_
        refine at_rsE (by simp only [List.nil_append, List.cons_append, List.set_cons_zero, List.set_cons_succ, Value.cells, List.toList_toArray]; rfl) ?_
        refine at_op rfl ?_
        refine op_storeAll' (k := 1) rfl rfl rfl rfl (rfl) (by rfl) tyz_impl_Pt.szx rfl rfl rfl ?_
        refine at_rsE (by simp only [List.nil_append, List.cons_append, List.set_cons_zero, List.set_cons_succ, Value.cells, List.toList_toArray]; rfl) ?_
        refine at_q rfl rfl (by decide) (qt_assign rfl rfl) ?_
        refine at_end ?_
        refine at_retc ?_
        refine then_ret ?_
        refine at_ret3 rfl (rvCelS (k := 0) rfl tys_impl_Pt rfl rfl) (rvCelS (k := 1) rfl tys_impl_Pt rfl rfl) (.tmp rfl) ?_
        intro w' hs
        exact ⟨by rw [sb_out hB (by rw [eL, eH]; simp_all)], hs.fin⟩
      · try simp only [decide_eq_true_eq, decide_eq_false_iff_not, beq_iff_eq, beq_eq_false_iff_ne, Bool.not_eq_true', Bool.not_eq_false', Bool.not_true, Bool.not_false, Int.not_lt, Int.not_le, ne_eq, Nat.not_lt, Nat.not_le] at g2
        refine at_on rfl rfl rfl rfl ?_
        refine op_q rfl (by decide) (qt_loadS rfl rfl tys_impl_Pt rfl (rdAll (k := 7) rfl)) ?_
        refine at_on rfl rfl rfl rfl ?_
        refine op_q rfl (by decide) (qt_call ok_spec_l03Ok rfl rfl (fun w1 hs => l03Ok_any (hiX a n + hiX b m) (hiY a n + hiY b m) w1)) ?_
        refine at_on rfl rfl rfl rfl ?_
        refine op_q rfl (by decide) (qt_not rfl rfl) ?_
        refine at_q rfl rfl (by decide) (qt_pickF rfl rfl rfl) ?_
        refine at_end ?_
        refine at_cond rfl (fun c2 => ?_) (fun c2 => ?_)
        · try simp only [decide_eq_true_eq, decide_eq_false_iff_not, beq_iff_eq, beq_eq_false_iff_ne, Bool.not_eq_true', Bool.not_eq_false', Bool.not_true, Bool.not_false, Int.not_lt, Int.not_le, ne_eq, Nat.not_lt, Nat.not_le] at c2
          refine at_seq ?_
          refine at_region ?_
          refine at_q rfl rfl (by decide) (qt_build rfl rfl (bld_impl_Pt_)) ?_
          refine at_q rfl rfl (by decide) (qt_build rfl rfl (bld_impl_Pt_)) ?_
          refine at_op rfl ?_
          refine op_storeAll' (k := 0) rfl rfl rfl rfl (rfl) (by rfl) tyz_impl_Pt.szx rfl rfl rfl ?_
          refine at_rsE (by simp only [List.nil_append, List.cons_append, List.set_cons_zero, List.set_cons_succ, Value.cells, List.toList_toArray]; rfl) ?_
          refine at_op rfl ?_
          refine op_storeAll' (k := 1) rfl rfl rfl rfl (rfl) (by rfl) tyz_impl_Pt.szx rfl rfl rfl ?_
          refine at_rsE (by simp only [List.nil_append, List.cons_append, List.set_cons_zero, List.set_cons_succ, Value.cells, List.toList_toArray]; rfl) ?_
          refine at_q rfl rfl (by decide) (qt_assign rfl rfl) ?_
          refine at_end ?_
          refine at_retc ?_
          refine then_ret ?_
          refine at_ret3 rfl (rvCelS (k := 0) rfl tys_impl_Pt rfl rfl) (rvCelS (k := 1) rfl tys_impl_Pt rfl rfl) (.tmp rfl) ?_
          intro w' hs
          exact ⟨by rw [sb_out hB (by rw [eL, eH]; simp_all)], hs.fin⟩
        · try simp only [decide_eq_true_eq, decide_eq_false_iff_not, beq_iff_eq, beq_eq_false_iff_ne, Bool.not_eq_true', Bool.not_eq_false', Bool.not_true, Bool.not_false, Int.not_lt, Int.not_le, ne_eq, Nat.not_lt, Nat.not_le] at c2
          refine at_skip ?_
          refine norm_then ?_
          refine at_seq ?_
          refine dg_start mixed rfl ?_
          refine dg_phaseW 5 [0, 1] ?_
          refine dg_q (i := 0) rfl (by kernel_rfl) (by kernel_rfl) (by kernel_rfl) [] (by kernel_rfl) (fun _ _ _ h => h) rfl rfl (by decide) (fun _ h => (h.wk [0, 1]).upto ⟨rfl, rfl, rfl, rfl, rfl, rfl, rfl, rfl, trivial⟩) (qt_loadS rfl rfl tys_impl_Pt rfl (rdAll (k := 6) rfl)) ?_
          refine dg_q (i := 1) rfl (by kernel_rfl) (by kernel_rfl) (by kernel_rfl) [] (by kernel_rfl) (fun _ _ _ h => h) rfl rfl (by decide) (fun _ h => (h.wk [0, 1]).upto ⟨rfl, rfl, rfl, rfl, rfl, rfl, rfl, rfl, trivial⟩) (qt_loadS rfl rfl tys_impl_Pt rfl (rdAll (k := 7) rfl)) ?_
          refine dg_one (i := 2) rfl (by decide) (by kernel_rfl) rfl ?_
          refine op_storeAll' (k := 0) rfl rfl rfl rfl (rfl) (by rfl) tyz_impl_Pt.szx rfl rfl rfl ?_
          refine at_rsE (by simp only [List.nil_append, List.cons_append, List.set_cons_zero, List.set_cons_succ, Value.cells, List.toList_toArray]; rfl) ?_
          refine dr_keep (fun _ h => (h.wk [0, 1]).upto ⟨rfl, rfl, rfl, rfl, rfl, rfl, rfl, rfl, trivial⟩) ?_
          refine dg_one (i := 3) rfl (by decide) (by kernel_rfl) rfl ?_
          refine op_storeAll' (k := 1) rfl rfl rfl rfl (rfl) (by rfl) tyz_impl_Pt.szx rfl rfl rfl ?_
          refine at_rsE (by simp only [List.nil_append, List.cons_append, List.set_cons_zero, List.set_cons_succ, Value.cells, List.toList_toArray]; rfl) ?_
          refine dr_keep (fun _ h => (h.wk [0, 1]).upto ⟨rfl, rfl, rfl, rfl, rfl, rfl, rfl, rfl, trivial⟩) ?_
          refine dg_q (i := 4) rfl (by kernel_rfl) (by kernel_rfl) (by kernel_rfl) [] (by kernel_rfl) (fun _ _ _ h => h) rfl rfl (by decide) (fun _ h => (h.wk [0, 1]).upto ⟨rfl, rfl, rfl, rfl, rfl, rfl, rfl, rfl, trivial⟩) (qt_assign rfl rfl) ?_
          refine dg_done (by kernel_rfl) ?_
          refine norm_then ?_
          refine at_retc ?_
          refine at_ret3 rfl (rvCelS (k := 0) rfl tys_impl_Pt rfl rfl) (rvCelS (k := 1) rfl tys_impl_Pt rfl rfl) (.tmp rfl) ?_
          intro w' hs
          exact ⟨by rw [sb_yes hB (by rw [eL, eH]; simp_all), eL, eH]; rfl, hs.fin⟩
end Go.Proofs.Ytcplmmoeglembaa
