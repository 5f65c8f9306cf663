/- Rings of two regions: both sides of JoinRegions. -/
import Derived.Test.YtnalgllmdpcjcaaLawKit
import Derived.Test.YtnalgllmdpcjcaaCopy
namespace Go.Proofs.Ytnalgllmdpcjcaa
open Go Go.RowKit
set_option linter.unusedVariables false
set_option linter.unusedSimpArgs false
set_option maxRecDepth 100000
set_option maxHeartbeats 4000000
set_option linter.unusedVariables false

/-- Own points, copied by the reference. -/
theorem l13Own_any (b1_ o1 : Nat) (A : Option Addr) (n c : Nat) (xs : List (Int × Int)) (w : World) (hcell : w.cell? ⟨b1_, o1, none⟩ = some (.slice A n c)) (hb1 : b1_ < w.heap.size) (h : Pts w A n xs) (hn : 0 < n) (hn2 : n ≤ 1048577) :
    Calls Try.prog 132 #[.pointer (some ⟨b1_, o1, none⟩)] w fun e w' => ∃ x : Option Addr × Nat, e = .returned (.agg #[.slice x.1 n x.2]) ∧ Over w w' ∧ (rowR 0 24 2 n (xs.flatMap ptCells) x).P w' ∧ (∀ b, (rowR 0 24 2 n (xs.flatMap ptCells) x).F b → w.heap.size ≤ b) ∧ (rowR 0 24 2 n (xs.flatMap ptCells) x).B = 0 ∧ True := by
  obtain ⟨b, o, rfl, _⟩ := h.2 hn
  refine walk_from (m := 10) (Try.func132) rfl rfl (Nat.le_of_ble_eq_true rfl) ?_
  refine at_seq ?_
  refine at_region ?_
  refine at_op rfl ?_
  refine op_alloc rfl tyz_impl_Ring rfl (by decide) (fun b1 => ?_)
  refine at_rsE (by simp only [List.nil_append, List.cons_append, List.set_cons_zero, List.set_cons_succ, Value.cells, List.toList_toArray]; rfl) ?_
  refine at_end ?_
  refine at_seq ?_
  refine at_region ?_
  refine at_op rfl ?_
  refine op_buildSlice rfl rfl (bsl_sl_impl_Pt_0) rfl (by decide) (fun b2 => ?_)
  refine at_rowN 1 2 rfl rfl ?_
  refine at_rsE (by simp only [List.nil_append, List.cons_append, List.set_cons_zero, List.set_cons_succ, Value.cells, List.toList_toArray]; rfl) ?_
  refine at_q rfl rfl (by decide) (qt_move rfl rfl) ?_
  refine at_q rfl rfl (by decide) (qt_nilCheck rfl rfl) ?_
  refine at_q rfl rfl (by decide) (qt_fieldAddr rfl rfl tyf_impl_Ring_0) ?_
  refine at_q rfl rfl (by decide) (qt_load1 rfl rfl ty1_sl_impl_Pt (rdOld0 hcell hb1)) ?_
  refine at_op rfl ?_
  refine op_appendR (k := 1) rfl tyl_sl_impl_Pt tyz_impl_Pt (by decide) rfl (by decide) rfl rfl rfl (fun w' hs => srcPts (h.over hs.fin) hn) (ptCells_one _) (by unfold maxLen; omega) (by omega) (Nat.le_refl _) (fun r1 => ?_)
  refine at_rsE (by simp only [List.nil_append, List.cons_append, List.set_cons_zero, List.set_cons_succ, Value.cells, List.toList_toArray]; rfl) ?_
  refine at_q rfl rfl (by decide) (qt_build rfl rfl (bld_impl_Ring_0 rfl)) ?_
  refine at_op rfl ?_
  refine op_storeAll' (k := 0) rfl rfl rfl rfl (rfl) (by rfl) tyz_impl_Ring.szx rfl rfl rfl ?_
  refine at_rsE (by simp only [List.nil_append, List.cons_append, List.set_cons_zero, List.set_cons_succ, Value.cells, List.toList_toArray]; rfl) ?_
  refine at_end ?_
  refine at_retc ?_
  refine at_ret1 rfl (rvCelS (k := 0) rfl tys_impl_Ring rfl rfl) ?_
  intro w' hs
  have hr0 : w'.ownsRow w.heap.size 24 2 (.slice r1.1 (0 + n) r1.2) (0 + n) (xs.flatMap ptCells) := (hs.all 1 _ rfl).1
  rw [Nat.zero_add] at hr0
  exact ⟨r1, by rw [Nat.zero_add], hs.fin, row_low hr0 (Nat.zero_le _), fun b hb => (hr0.lt b hb).1, rfl, trivial⟩
/-- A region, if it is not too large. -/
def fitR (rs : List Ring_) : List Ring_ := if regionB rs = true then rs else []
def fitC (rs : List Ring_) : Int := if regionB rs = true then 0 else 5
theorem fitR_small (rs : List Ring_) : smallR (fitR rs) := by
  unfold fitR
  split
  · exact smallR.of (by assumption)
  · exact smallR.nil
theorem rdC {w : World} {Rs : List Res} {b o k : Nat} {v : Value} (hc : w.cell? ⟨b, o + k, none⟩ = some v) (hb : b < w.heap.size) (w' : World) (hs : St ⟨w, []⟩ Rs w') : w'.cell? ⟨b, o + k * 1, none⟩ = some v := by rw [Nat.mul_one]; exact rdOld hc hb w' hs
theorem rg_app1 {rs ss : List Ring_} {j : Nat} (h : j < rs.length) : rg (rs ++ ss) j = rg rs j := by simp [rg, List.getD, List.getElem?_append_left h]
theorem rg_app2 {rs ss : List Ring_} {j : Nat} (h : rs.length ≤ j) : rg (rs ++ ss) j = rg ss (j - rs.length) := by simp [rg, List.getD, List.getElem?_append_right h]
theorem join_lens {rs ss : List Ring_} (hr : regionB rs = true) (hr2 : regionB ss = true) (j : Nat) (hj : j < (rs ++ ss).length) : 0 < (rg (rs ++ ss) j).length ∧ (rg (rs ++ ss) j).length ≤ 400 := by
  rw [List.length_append] at hj
  by_cases h : j < rs.length
  · rw [rg_app1 h]; exact pos_of_ring (regRing hr h)
  · rw [rg_app2 (by omega)]; exact pos_of_ring (regRing hr2 (by omega))
theorem l13Join_any (b1_ o1 b2_ o2 : Nat) (A A2 : Option Addr) (n c n2 c2_ : Nat) (rs ss : List Ring_) (w : World) (hcl : w.cell? ⟨b1_, o1, none⟩ = some (.slice A n c)) (hbl : b1_ < w.heap.size) (hcl2 : w.cell? ⟨b2_, o2, none⟩ = some (.slice A2 n2 c2_)) (hbl2 : b2_ < w.heap.size)
    (h : Rings w A n rs) (h2 : Rings w A2 n2 ss) (hr : regionB rs = true) (hr2 : regionB ss = true) :
    Calls Try.prog 88 #[.pointer (some ⟨b1_, o1, none⟩), .pointer (some ⟨b2_, o2, none⟩)] w fun e w' => ∃ A' c', e = .returned (regV A' (n + n2) c') ∧ OwnG w.heap.size w'.heap.size w' A' (n + n2) (rs ++ ss) ∧ Over w w' := by
  have hl := h.1
  have hl2 := h2.1
  have hn40 := reg_len hr
  have hn40' := reg_len hr2
  refine walk_from (m := 52) (Try.func88) rfl rfl (Nat.le_of_ble_eq_true rfl) ?_
  refine at_seq ?_
  refine at_region ?_
  refine at_op rfl ?_
  refine op_alloc rfl tyz_impl_Region rfl (by decide) (fun b1 => ?_)
  refine at_rsE (by simp only [List.nil_append, List.cons_append, List.set_cons_zero, List.set_cons_succ, Value.cells, List.toList_toArray]; rfl) ?_
  refine at_end ?_
  refine at_seq ?_
  refine at_region ?_
  refine at_q rfl rfl (by decide) (qt_build rfl rfl (bld_impl_Region_)) ?_
  refine at_op rfl ?_
  refine op_alloc rfl tyz_impl_Region rfl (by decide) (fun b2 => ?_)
  refine at_rsE (by simp only [List.nil_append, List.cons_append, List.set_cons_zero, List.set_cons_succ, Value.cells, List.toList_toArray]; rfl) ?_
  refine at_op rfl ?_
  refine op_storeAll' (k := 1) rfl rfl rfl rfl (rfl) (by rfl) tyz_impl_Region.szx rfl rfl rfl ?_
  refine at_rsE (by simp only [List.nil_append, List.cons_append, List.set_cons_zero, List.set_cons_succ, Value.cells, List.toList_toArray]; rfl) ?_
  refine at_end ?_
  refine at_row0 (T := 38) (s := 1) ?_
  refine at_rsE (by simp only [List.nil_append, List.cons_append, List.set_cons_zero, List.set_cons_succ, List.eraseIdx_cons_zero, List.eraseIdx_cons_succ, Value.cells, List.toList_toArray]; rfl) ?_
  refine at_many0 ?_
  refine at_rsE (by simp only [List.nil_append, List.cons_append, List.set_cons_zero, List.set_cons_succ, List.eraseIdx_cons_zero, List.eraseIdx_cons_succ, Value.cells, List.toList_toArray]; rfl) ?_
  refine at_seq ?_
  refine at_seq ?_
  refine at_region ?_
  refine at_q rfl rfl (by decide) (qt_assign rfl rfl) ?_
  refine at_end ?_
  refine at_block ?_
  refine at_loopc (X := Nat × (Option Addr × Nat) × List Pc) (fun x => x.1 ≤ n ∧ x.2.2.map (·.xs) = rs.take x.1) (fun x => n - x.1) (fun x => [(6, .int .i64 (x.1 : Int))]) (C := [(0, _), (1, _), (4, _), (5, _)]) ⟨rfl, rfl, rfl, rfl, trivial⟩ (fun x => [.cel b1 53 [.slice none 0 0], .cel b2 53 [.slice x.2.1.1 x.1 x.2.1.2], rowR (Bs.N ⟨w, []⟩) 38 1 x.1 (x.2.2.map Pc.val) x.2.1, pcsR x.2.2]) (0, (none, 0), []) (⟨Nat.zero_le _, rfl⟩) ⟨rfl, rfl, rfl, rfl, rfl, trivial⟩ (fun _ h => h) ?_
  intro ⟨k, ⟨rA, rc⟩, l⟩ hx L hL1
  refine at_envE (by simp only [List.nil_append, List.cons_append]; rfl) ?_
  refine at_rsE (by first | (dsimp only; done) | (dsimp only; rfl) | rfl) ?_
  have hk : k ≤ n := hx.1
  have hmp : l.map (·.xs) = rs.take k := hx.2
  have hlk : l.length = k := by have := congrArg List.length hmp; rw [List.length_map, List.length_take] at this; omega
  refine at_seq ?_
  refine at_seq ?_
  refine at_region ?_
  refine at_q rfl rfl (by decide) (qt_move rfl rfl) ?_
  refine at_q rfl rfl (by decide) (qt_move rfl rfl) ?_
  refine at_q rfl rfl (by decide) (qt_nilCheck rfl rfl) ?_
  refine at_q rfl rfl (by decide) (qt_fieldAddr rfl rfl tyf_impl_Region_0) ?_
  refine at_q rfl rfl (by decide) (qt_load1 rfl rfl ty1_sl_impl_Ring (rdOld0 hcl hbl)) ?_
  refine at_q rfl rfl (by decide) (qt_len rfl rfl tyl_sl_impl_Ring) ?_
  refine at_q rfl rfl (by decide) (qt_lss rfl rfl rfl) ?_
  refine at_end ?_
  refine at_cond rfl (fun c1 => ?_) (fun c1 => ?_)
  · try simp only [decide_eq_true_eq, decide_eq_false_iff_not, beq_iff_eq, beq_eq_false_iff_ne, Bool.not_eq_true', Bool.not_eq_false', Bool.not_true, Bool.not_false, Int.not_lt, Int.not_le, ne_eq, Nat.not_lt, Nat.not_le] at c1
    have hlt : k < n := (by omega)
    obtain ⟨bb, oo, Ak, ck, rfl, hbB, hcell, hpts, hmax⟩ := h.at_ hlt
    have hpos := pos_of_ring (regRing hr (show k < rs.length by omega))
    refine at_skip ?_
    refine norm_then ?_
    refine at_seq ?_
    refine at_block ?_
    refine dg_start mixed rfl ?_
    refine dg_phase 10 ?_
    refine dg_q (i := 0) rfl (by kernel_rfl) (by kernel_rfl) (by kernel_rfl) [1] (by kernel_rfl) (fun _ _ _ h => h) rfl rfl (by decide) (fun _ h => h.upto ⟨rfl, rfl, rfl, rfl, trivial⟩) (qt_fieldAddr rfl rfl tyf_impl_Region_0) ?_
    refine dg_q (i := 1) rfl (by kernel_rfl) (by kernel_rfl) (by kernel_rfl) [] (by kernel_rfl) (fun _ _ _ h => h) rfl rfl (by decide) (fun _ h => h.upto ⟨rfl, rfl, rfl, rfl, trivial⟩) (qt_load1 rfl rfl ty1_sl_impl_Ring (rd1 (k := 1) rfl rfl)) ?_
    refine dg_q (i := 2) rfl (by kernel_rfl) (by kernel_rfl) (by kernel_rfl) [3, 4, 5, 7, 8] (by kernel_rfl) (fun _ _ _ h => h) rfl rfl (by decide) (fun _ h => h.upto ⟨rfl, rfl, rfl, rfl, trivial⟩) (qt_move rfl rfl) ?_
    refine dg_q (i := 3) rfl (by kernel_rfl) (by kernel_rfl) (by kernel_rfl) [4, 5, 7, 8] (by kernel_rfl) (fun _ _ _ h => h) rfl rfl (by decide) (fun _ h => h.upto ⟨rfl, rfl, rfl, rfl, trivial⟩) (qt_nilCheck rfl rfl) ?_
    refine dg_q (i := 4) rfl (by kernel_rfl) (by kernel_rfl) (by kernel_rfl) [5, 7, 8] (by kernel_rfl) (fun _ _ _ h => h) rfl rfl (by decide) (fun _ h => h.upto ⟨rfl, rfl, rfl, rfl, trivial⟩) (qt_fieldAddr rfl rfl tyf_impl_Region_0) ?_
    refine dg_q (i := 5) rfl (by kernel_rfl) (by kernel_rfl) (by kernel_rfl) [7, 8] (by kernel_rfl) (fun _ _ _ h => h) rfl rfl (by decide) (fun _ h => h.upto ⟨rfl, rfl, rfl, rfl, trivial⟩) (qt_load1 rfl rfl ty1_sl_impl_Ring (rdOld0 hcl hbl)) ?_
    refine dg_q (i := 6) rfl (by kernel_rfl) (by kernel_rfl) (by kernel_rfl) [7, 8] (by kernel_rfl) (fun _ _ _ h => h) rfl rfl (by decide) (fun _ h => h.upto ⟨rfl, rfl, rfl, rfl, trivial⟩) (qt_move rfl rfl) ?_
    refine dg_q (i := 7) rfl (by kernel_rfl) (by kernel_rfl) (by kernel_rfl) [8] (by kernel_rfl) (fun _ _ _ h => h) rfl rfl (by decide) (fun _ h => h.upto ⟨rfl, rfl, rfl, rfl, trivial⟩) (qt_index rfl rfl rfl tyl_sl_impl_Ring (by omega)) ?_
    refine dg_one (i := 8) rfl (by decide) (by kernel_rfl) rfl ?_
    refine op_call ok_spec_l13Own (X := Option Addr × Nat) (v := fun x => .agg #[.slice x.1 _ x.2]) (r := fun x => rowR 0 24 2 _ _ x) (H := fun _ => True) rfl rfl rfl (by decide) (fun w1 hs => l13Own_any _ _ Ak _ ck (rg rs k) w1 (rdC hcell hbB w1 hs) (Nat.lt_of_lt_of_le hbB hs.fin.size) (hpts.over hs.fin) hpos.1 (by omega)) ?_
    rintro ⟨cA, cc⟩ -
    refine at_rsE (by simp only [List.nil_append, List.cons_append, List.set_cons_zero, List.set_cons_succ, Value.cells, List.toList_toArray]; rfl) ?_
    refine dr_more (fun _ h => h.upto ⟨rfl, rfl, rfl, rfl, trivial⟩) ?_
    refine dg_one (i := 9) rfl (by decide) (by kernel_rfl) rfl ?_
    refine op_buildSlice rfl rfl (bsl_sl_impl_Ring_1_0 rfl) rfl (by decide) (fun b3 => ?_)
    refine at_rsE (by simp only [List.nil_append, List.cons_append, List.set_cons_zero, List.set_cons_succ, Value.cells, List.toList_toArray]; rfl) ?_
    refine dr_keep (fun _ h => h.upto ⟨rfl, rfl, rfl, rfl, rfl, trivial⟩) ?_
    refine dg_bar rfl (by kernel_rfl) rfl ?_
    refine op_appendR (k := 2) rfl tyl_sl_impl_Ring tyz_impl_Ring (by decide) rfl (by decide) rfl rfl rfl (fun w' hs => src_cel hs (k := 5) rfl rfl) (by simp [Value.oneCell']) (by unfold maxLen; omega) (by omega) (Nat.le_refl _) (fun r1 => ?_)
    refine at_rsE (by simp only [List.nil_append, List.cons_append, List.set_cons_zero, List.set_cons_succ, Value.cells, List.toList_toArray]; rfl) ?_
    refine dg_phaseW 13 [1] ?_
    refine dg_q (i := 11) rfl (by kernel_rfl) (by kernel_rfl) (by kernel_rfl) [] (by kernel_rfl) (fun _ _ _ h => h) rfl rfl (by decide) (fun _ h => (h.wk [1]).upto ⟨rfl, rfl, rfl, rfl, rfl, rfl, trivial⟩) (qt_fieldAddr rfl rfl tyf_impl_Region_0) ?_
    refine dg_one (i := 12) rfl (by decide) (by kernel_rfl) rfl ?_
    refine op_storeAll' (k := 1) rfl rfl rfl rfl (rfl) (by rfl) tyz_sl_impl_Ring.szx rfl rfl rfl ?_
    refine at_rsE (by simp only [List.nil_append, List.cons_append, List.set_cons_zero, List.set_cons_succ, Value.cells, List.toList_toArray]; rfl) ?_
    refine dr_keep (fun _ h => (h.wk [1]).upto ⟨rfl, rfl, rfl, rfl, rfl, rfl, trivial⟩) ?_
    refine dg_done (by kernel_rfl) ?_
    refine at_pc 4 rfl rfl (fun clo chi => ?_)
    refine at_rsE (by simp only [List.nil_append, List.cons_append, List.set_cons_zero, List.set_cons_succ, List.eraseIdx_cons_zero, List.eraseIdx_cons_succ, Value.cells, List.toList_toArray]; rfl) ?_
    refine at_push 3 4 rfl rfl (by decide) rfl ?_
    refine at_rsE (by simp only [List.nil_append, List.cons_append, List.set_cons_zero, List.set_cons_succ, List.eraseIdx_cons_zero, List.eraseIdx_cons_succ, Value.cells, List.toList_toArray]; rfl) ?_
    refine norm_block ?_
    refine norm_then ?_
    refine at_region ?_
    refine at_q rfl rfl (by decide) (qt_move rfl rfl) ?_
    refine at_q rfl rfl (by decide) (qt_add rfl rfl rfl (by omega) (by omega)) ?_
    refine at_q rfl rfl (by decide) (qt_assign rfl rfl) ?_
    refine at_end ?_
    exact at_againc hL1 ((k + 1, r1, l ++ [⟨rg rs k, cA, cc, clo, chi⟩])) (⟨show k + 1 ≤ n by omega, by rw [List.map_append, hmp, take_step (by omega)]; rfl⟩) (by simp only; omega) ⟨vi (by omega), rfl, rfl, rfl, rfl, trivial⟩ (fun _ h => h.upto ⟨rfl, rfl, by rw [List.map_append]; rfl, (pcsR_push _ _).symm, trivial⟩)
  · try simp only [decide_eq_true_eq, decide_eq_false_iff_not, beq_iff_eq, beq_eq_false_iff_ne, Bool.not_eq_true', Bool.not_eq_false', Bool.not_true, Bool.not_false, Int.not_lt, Int.not_le, ne_eq, Nat.not_lt, Nat.not_le] at c1
    have hkn : k = n := (by omega)
    subst hkn
    have hrs : l.map (·.xs) = rs := by rw [hmp, List.take_of_length_le (by omega)]
    refine at_exit ?_
    refine pass_then (fun h => by cases h) ?_
    refine pass_then (fun h => by cases h) ?_
    refine pass_hit ?_
    refine norm_then ?_
    refine at_seq ?_
    refine at_seq ?_
    refine at_region ?_
    refine at_q rfl rfl (by decide) (qt_assign rfl rfl) ?_
    refine at_end ?_
    refine at_block ?_
    refine at_loopc (X := Nat × (Option Addr × Nat) × List Pc) (fun x => x.1 ≤ n2 ∧ x.2.2.map (·.xs) = rs ++ ss.take x.1) (fun x => n2 - x.1) (fun x => [(7, .int .i64 (x.1 : Int))]) (C := [(1, _), (4, _), (5, _)]) ⟨rfl, rfl, rfl, trivial⟩ (fun x => [.cel b1 53 [.slice none 0 0], .cel b2 53 [.slice x.2.1.1 (k + x.1) x.2.1.2], rowR (Bs.N ⟨w, []⟩) 38 1 (k + x.1) (x.2.2.map Pc.val) x.2.1, pcsR x.2.2]) (0, (rA, rc), l) (⟨Nat.zero_le _, by rw [hrs]; simp⟩) ⟨rfl, rfl, rfl, rfl, trivial⟩ (fun _ h => h) ?_
    intro ⟨j, ⟨qA, qc⟩, m⟩ hy L hL2
    refine at_envE (by simp only [List.nil_append, List.cons_append]; rfl) ?_
    refine at_rsE (by first | (dsimp only; done) | (dsimp only; rfl) | rfl) ?_
    have hj : j ≤ n2 := hy.1
    have hmq : m.map (·.xs) = rs ++ ss.take j := hy.2
    have hlm : m.length = k + j := by have := congrArg List.length hmq; rw [List.length_map, List.length_append, List.length_take] at this; omega
    refine at_seq ?_
    refine at_seq ?_
    refine at_region ?_
    refine at_q rfl rfl (by decide) (qt_move rfl rfl) ?_
    refine at_q rfl rfl (by decide) (qt_move rfl rfl) ?_
    refine at_q rfl rfl (by decide) (qt_nilCheck rfl rfl) ?_
    refine at_q rfl rfl (by decide) (qt_fieldAddr rfl rfl tyf_impl_Region_0) ?_
    refine at_q rfl rfl (by decide) (qt_load1 rfl rfl ty1_sl_impl_Ring (rdOld0 hcl2 hbl2)) ?_
    refine at_q rfl rfl (by decide) (qt_len rfl rfl tyl_sl_impl_Ring) ?_
    refine at_q rfl rfl (by decide) (qt_lss rfl rfl rfl) ?_
    refine at_end ?_
    refine at_cond rfl (fun c2 => ?_) (fun c2 => ?_)
    · try simp only [decide_eq_true_eq, decide_eq_false_iff_not, beq_iff_eq, beq_eq_false_iff_ne, Bool.not_eq_true', Bool.not_eq_false', Bool.not_true, Bool.not_false, Int.not_lt, Int.not_le, ne_eq, Nat.not_lt, Nat.not_le] at c2
      have hlt : j < n2 := (by omega)
      obtain ⟨bb, oo, Ak, ck, rfl, hbB, hcell, hpts, hmax⟩ := h2.at_ hlt
      have hpos := pos_of_ring (regRing hr2 (show j < ss.length by omega))
      refine at_skip ?_
      refine norm_then ?_
      refine at_seq ?_
      refine at_block ?_
      refine dg_start mixed rfl ?_
      refine dg_phase 10 ?_
      refine dg_q (i := 0) rfl (by kernel_rfl) (by kernel_rfl) (by kernel_rfl) [1] (by kernel_rfl) (fun _ _ _ h => h) rfl rfl (by decide) (fun _ h => h.upto ⟨rfl, rfl, rfl, rfl, trivial⟩) (qt_fieldAddr rfl rfl tyf_impl_Region_0) ?_
      refine dg_q (i := 1) rfl (by kernel_rfl) (by kernel_rfl) (by kernel_rfl) [] (by kernel_rfl) (fun _ _ _ h => h) rfl rfl (by decide) (fun _ h => h.upto ⟨rfl, rfl, rfl, rfl, trivial⟩) (qt_load1 rfl rfl ty1_sl_impl_Ring (rd1 (k := 1) rfl rfl)) ?_
      refine dg_q (i := 2) rfl (by kernel_rfl) (by kernel_rfl) (by kernel_rfl) [3, 4, 5, 7, 8] (by kernel_rfl) (fun _ _ _ h => h) rfl rfl (by decide) (fun _ h => h.upto ⟨rfl, rfl, rfl, rfl, trivial⟩) (qt_move rfl rfl) ?_
      refine dg_q (i := 3) rfl (by kernel_rfl) (by kernel_rfl) (by kernel_rfl) [4, 5, 7, 8] (by kernel_rfl) (fun _ _ _ h => h) rfl rfl (by decide) (fun _ h => h.upto ⟨rfl, rfl, rfl, rfl, trivial⟩) (qt_nilCheck rfl rfl) ?_
      refine dg_q (i := 4) rfl (by kernel_rfl) (by kernel_rfl) (by kernel_rfl) [5, 7, 8] (by kernel_rfl) (fun _ _ _ h => h) rfl rfl (by decide) (fun _ h => h.upto ⟨rfl, rfl, rfl, rfl, trivial⟩) (qt_fieldAddr rfl rfl tyf_impl_Region_0) ?_
      refine dg_q (i := 5) rfl (by kernel_rfl) (by kernel_rfl) (by kernel_rfl) [7, 8] (by kernel_rfl) (fun _ _ _ h => h) rfl rfl (by decide) (fun _ h => h.upto ⟨rfl, rfl, rfl, rfl, trivial⟩) (qt_load1 rfl rfl ty1_sl_impl_Ring (rdOld0 hcl2 hbl2)) ?_
      refine dg_q (i := 6) rfl (by kernel_rfl) (by kernel_rfl) (by kernel_rfl) [7, 8] (by kernel_rfl) (fun _ _ _ h => h) rfl rfl (by decide) (fun _ h => h.upto ⟨rfl, rfl, rfl, rfl, trivial⟩) (qt_move rfl rfl) ?_
      refine dg_q (i := 7) rfl (by kernel_rfl) (by kernel_rfl) (by kernel_rfl) [8] (by kernel_rfl) (fun _ _ _ h => h) rfl rfl (by decide) (fun _ h => h.upto ⟨rfl, rfl, rfl, rfl, trivial⟩) (qt_index rfl rfl rfl tyl_sl_impl_Ring (by omega)) ?_
      refine dg_one (i := 8) rfl (by decide) (by kernel_rfl) rfl ?_
      refine op_call ok_spec_l13Own (X := Option Addr × Nat) (v := fun x => .agg #[.slice x.1 _ x.2]) (r := fun x => rowR 0 24 2 _ _ x) (H := fun _ => True) rfl rfl rfl (by decide) (fun w1 hs => l13Own_any _ _ Ak _ ck (rg ss j) w1 (rdC hcell hbB w1 hs) (Nat.lt_of_lt_of_le hbB hs.fin.size) (hpts.over hs.fin) hpos.1 (by omega)) ?_
      rintro ⟨cA, cc⟩ -
      refine at_rsE (by simp only [List.nil_append, List.cons_append, List.set_cons_zero, List.set_cons_succ, Value.cells, List.toList_toArray]; rfl) ?_
      refine dr_more (fun _ h => h.upto ⟨rfl, rfl, rfl, rfl, trivial⟩) ?_
      refine dg_one (i := 9) rfl (by decide) (by kernel_rfl) rfl ?_
      refine op_buildSlice rfl rfl (bsl_sl_impl_Ring_1_0 rfl) rfl (by decide) (fun b4 => ?_)
      refine at_rsE (by simp only [List.nil_append, List.cons_append, List.set_cons_zero, List.set_cons_succ, Value.cells, List.toList_toArray]; rfl) ?_
      refine dr_keep (fun _ h => h.upto ⟨rfl, rfl, rfl, rfl, rfl, trivial⟩) ?_
      refine dg_bar rfl (by kernel_rfl) rfl ?_
      refine op_appendR (k := 2) rfl tyl_sl_impl_Ring tyz_impl_Ring (by decide) rfl (by decide) rfl rfl rfl (fun w' hs => src_cel hs (k := 5) rfl rfl) (by simp [Value.oneCell']) (by unfold maxLen; omega) (by omega) (Nat.le_refl _) (fun r2 => ?_)
      refine at_rsE (by simp only [List.nil_append, List.cons_append, List.set_cons_zero, List.set_cons_succ, Value.cells, List.toList_toArray]; rfl) ?_
      refine dg_phaseW 13 [1] ?_
      refine dg_q (i := 11) rfl (by kernel_rfl) (by kernel_rfl) (by kernel_rfl) [] (by kernel_rfl) (fun _ _ _ h => h) rfl rfl (by decide) (fun _ h => (h.wk [1]).upto ⟨rfl, rfl, rfl, rfl, rfl, rfl, trivial⟩) (qt_fieldAddr rfl rfl tyf_impl_Region_0) ?_
      refine dg_one (i := 12) rfl (by decide) (by kernel_rfl) rfl ?_
      refine op_storeAll' (k := 1) rfl rfl rfl rfl (rfl) (by rfl) tyz_sl_impl_Ring.szx rfl rfl rfl ?_
      refine at_rsE (by simp only [List.nil_append, List.cons_append, List.set_cons_zero, List.set_cons_succ, Value.cells, List.toList_toArray]; rfl) ?_
      refine dr_keep (fun _ h => (h.wk [1]).upto ⟨rfl, rfl, rfl, rfl, rfl, rfl, trivial⟩) ?_
      refine dg_done (by kernel_rfl) ?_
      refine at_pc 4 rfl rfl (fun clo chi => ?_)
      refine at_rsE (by simp only [List.nil_append, List.cons_append, List.set_cons_zero, List.set_cons_succ, List.eraseIdx_cons_zero, List.eraseIdx_cons_succ, Value.cells, List.toList_toArray]; rfl) ?_
      refine at_push 3 4 rfl rfl (by decide) rfl ?_
      refine at_rsE (by simp only [List.nil_append, List.cons_append, List.set_cons_zero, List.set_cons_succ, List.eraseIdx_cons_zero, List.eraseIdx_cons_succ, Value.cells, List.toList_toArray]; rfl) ?_
      refine norm_block ?_
      refine norm_then ?_
      refine at_region ?_
      refine at_q rfl rfl (by decide) (qt_move rfl rfl) ?_
      refine at_q rfl rfl (by decide) (qt_add rfl rfl rfl (by omega) (by omega)) ?_
      refine at_q rfl rfl (by decide) (qt_assign rfl rfl) ?_
      refine at_end ?_
      exact at_againc hL2 ((j + 1, r2, m ++ [⟨rg ss j, cA, cc, clo, chi⟩])) (⟨show j + 1 ≤ n2 by omega, by rw [List.map_append, hmq, take_step (by omega), List.append_assoc]; rfl⟩) (by simp only; omega) ⟨vi (by omega), rfl, rfl, rfl, trivial⟩ (fun _ h => h.upto ⟨rfl, rfl, by rw [List.map_append]; rfl, (pcsR_push _ _).symm, trivial⟩)
    · try simp only [decide_eq_true_eq, decide_eq_false_iff_not, beq_iff_eq, beq_eq_false_iff_ne, Bool.not_eq_true', Bool.not_eq_false', Bool.not_true, Bool.not_false, Int.not_lt, Int.not_le, ne_eq, Nat.not_lt, Nat.not_le] at c2
      have hjn : j = n2 := (by omega)
      refine at_exit ?_
      refine pass_then (fun h => by cases h) ?_
      refine pass_then (fun h => by cases h) ?_
      refine pass_hit ?_
      refine norm_then ?_
      refine at_seq ?_
      refine at_region ?_
      refine at_q rfl rfl (by decide) (qt_loadS rfl rfl tys_impl_Region rfl (rdAll (k := 1) rfl)) ?_
      refine at_op rfl ?_
      refine op_storeAll' (k := 0) rfl rfl rfl rfl (rfl) (by rfl) tyz_impl_Region.szx rfl rfl rfl ?_
      refine at_rsE (by simp only [List.nil_append, List.cons_append, List.set_cons_zero, List.set_cons_succ, Value.cells, List.toList_toArray]; rfl) ?_
      refine at_end ?_
      refine at_retc ?_
      refine at_ret1 rfl (rvCelS (k := 0) rfl tys_impl_Region rfl rfl) ?_
      intro w' hs
      subst hjn
      have hss : m.map (·.xs) = rs ++ ss := by rw [hmq, List.take_of_length_le (by omega)]
      exact ⟨qA, qc, rfl, pcs_row hs (kr := 2) (kp := 3) rfl rfl (by decide) rfl hlm hss (fun i hi => by have := join_lens hr hr2 i hi; omega), hs.fin⟩

section
variable {P : Program} {n : Nat} {env : List (Nat × Value)} {w0 : Bs} {Rs : List Res} {ops : Array Oper} {Q : Exit → Act → World → Prop} {K : Act → World → Prop}
/-- Ways that meet again, with what they have made. -/
theorem at_cutX {x y : Code} {X : Type} (H : X → Prop) (E : X → List (Nat × Value)) {C : List (Nat × Value)} (hC : sub env C) (Rs' : X → List Res) (h1 : ∀ L : Act → World → Prop, (∀ x, H x → At n (E x ++ C) w0 (Rs' x) L) → At n env w0 Rs (fun a w => x.wp P (Exit.then L Q) a w))
    (h2 : ∀ x, H x → At n (E x ++ C) w0 (Rs' x) (fun a w => y.wp P Q a w)) : At n env w0 Rs (fun a w => (Code.seq x y).wp P Q a w) := at_seq (h1 _ h2)
theorem at_meetX {X : Type} {H : X → Prop} {E : X → List (Nat × Value)} {C : List (Nat × Value)} {Rs' : X → List Res} (hL : ∀ x, H x → At n (E x ++ C) w0 (Rs' x) K) (x : X) (hx : H x) (he : sub env (E x ++ C)) (hr : ∀ w, St w0 Rs w → St w0 (Rs' x) w) : At n env w0 Rs K := at_conv he hr (hL x hx)
/-- Some of the pieces, in another order. -/
theorem St.picks {w : World} (l : List Nat) (h : St w0 Rs w) (hn : l.Nodup) : St w0 (l.filterMap (Rs[·]?)) w := by
  have key : ∀ (l : List Nat), l.Nodup → ∃ f : Nat → Nat, (∀ i j, i < (l.filterMap (Rs[·]?)).length → j < (l.filterMap (Rs[·]?)).length → f i = f j → i = j) ∧ (∀ i, i < (l.filterMap (Rs[·]?)).length → Rs[f i]? = (l.filterMap (Rs[·]?))[i]?) ∧ ∀ i, i < (l.filterMap (Rs[·]?)).length → f i ∈ l := by
    intro l
    induction l with
    | nil => exact fun _ => ⟨id, fun i j hi => absurd hi (by simp), fun i hi => absurd hi (by simp), fun i hi => absurd hi (by simp)⟩
    | cons a l ih =>
      intro hn
      obtain ⟨hna, hnl⟩ := List.nodup_cons.1 hn
      obtain ⟨f, h1, h2, h3⟩ := ih hnl
      cases ha : Rs[a]? with
      | none =>
        have e : (a :: l).filterMap (Rs[·]?) = l.filterMap (Rs[·]?) := by simp [List.filterMap_cons, ha]
        rw [e]
        exact ⟨f, h1, h2, fun i hi => List.mem_cons_of_mem _ (h3 i hi)⟩
      | some r =>
        have e : (a :: l).filterMap (Rs[·]?) = r :: l.filterMap (Rs[·]?) := by simp [List.filterMap_cons, ha]
        rw [e]
        refine ⟨fun i => match i with | 0 => a | i + 1 => f i, fun i j hi hj hij => ?_, fun i hi => ?_, fun i hi => ?_⟩
        · match i, j with
          | 0, 0 => rfl
          | 0, j + 1 => have e : a = f j := hij; exact absurd (e.symm ▸ h3 j (by simpa using hj)) hna
          | i + 1, 0 => have e : f i = a := hij; exact absurd (e ▸ h3 i (by simpa using hi)) hna
          | i + 1, j + 1 => rw [h1 i j (by simpa using hi) (by simpa using hj) hij]
        · match i with
          | 0 => simpa using ha
          | i + 1 => simpa using h2 i (by simpa using hi)
        · match i with
          | 0 => exact List.mem_cons_self
          | i + 1 => exact List.mem_cons_of_mem _ (h3 i (by simpa using hi))
  obtain ⟨f, h1, h2, _⟩ := key l hn
  exact h.sel f h1 h2
theorem dg_two {Rs0 : List Res} {fuel f i j : Nat} {listed : Array Bool} {oi oj : Oper} (hi : ops[i]? = some oi) (hj : ops[j]? = some oj) (hfi : (i != f) = true) (hfj : (j != f) = true) (hr : Region.ready .any ops listed = [i, j]) (hgi : oi.guard = none) (hgj : oj.guard = none)
    (h1 : At n env w0 Rs (fun a w => oi.wp P a w (fun a' w' => St w0 Rs0 w' ∧ wpAnyG P .any ops Q (stB w0 Rs0) f fuel (listed.setIfInBounds i true) a' w') Q))
    (h2 : At n env w0 Rs (fun a w => oj.wp P a w (fun a' w' => St w0 Rs0 w' ∧ wpAnyG P .any ops Q (stB w0 Rs0) f fuel (listed.setIfInBounds j true) a' w') Q)) : At n env w0 Rs (fun a w => wpAnyG P .any ops Q (stB w0 Rs0) f (fuel + 1) listed a w) := by
  intro a W hf hs
  refine ⟨fun h0 => (by rw [h0] at hr; cases hr), fun k hk w hS => ?_⟩
  rw [hr] at hk
  simp only [List.mem_cons, List.not_mem_nil, or_false] at hk
  rcases hk with rfl | rfl
  · refine ⟨fun _ => ?_, fun e => absurd e (by simpa using hfi)⟩
    unfold Go.wpOp
    have hw : Region.wanted oi (yielded ops a.tmps) = true := by simp [Region.wanted, hgi]
    simp only [hi, hw, if_true]
    exact .inl (h1 a w hf (hs.over_ hS))
  · refine ⟨fun _ => ?_, fun e => absurd e (by simpa using hfj)⟩
    unfold Go.wpOp
    have hw : Region.wanted oj (yielded ops a.tmps) = true := by simp [Region.wanted, hgj]
    simp only [hj, hw, if_true]
    exact .inl (h2 a w hf (hs.over_ hS))
end
/-! ### A region made, as a row and its rings -/
theorem many2 {w : World} {r s : Res} (h1 : r.P w) (h2 : s.P w) (b1 : r.B = 0) (b2 : s.B = 0) (hap : ∀ b, r.F b → ¬ s.F b) : (Res.many [r, s]).P w :=
  ⟨fun q hq => by simp only [List.mem_cons, List.not_mem_nil, or_false] at hq; rcases hq with rfl | rfl <;> exact ⟨by assumption, by assumption⟩, by simpa using hap⟩
section
variable {n : Nat} {env : List (Nat × Value)} {w0 : Bs} {Rs : List Res} {K : Act → World → Prop}
/-- Two pieces that came as one. -/
theorem at_two (k : Nat) {r s : Res} (hk : Rs[k]? = some (.many [r, s])) (h : At n env w0 (Rs.set k r ++ [s]) K) : At n env w0 Rs K := fun a w hf hs => by
  refine h a w hf ?_
  have hm := hs.all k _ hk
  have hr := hm.1.1 r (by simp)
  have hss := hm.1.1 s (by simp)
  have hap : ∀ b, r.F b → ¬ s.F b := by have := hm.1.2; simpa using this
  have h1 : St w0 (Rs.set k r) w := hs.chg hk (fun _ => hr.1) (fun b hb => ⟨r, by simp, hb⟩) hr.2
  refine h1.add' hss.1 (fun b hb => hm.2.1 b ⟨s, by simp, hb⟩) (fun i q hq b hb hqb => ?_) hss.2
  rw [List.getElem?_set] at hq
  by_cases hik : k = i
  · subst hik
    rw [if_pos rfl] at hq
    split at hq
    · injection hq with hq; subst hq; exact hap b hqb hb
    · cases hq
  · rw [if_neg hik] at hq
    exact hs.apart k i _ q hik hk hq b ⟨s, by simp, hb⟩ hqb
/-- Pieces beside pieces. -/
theorem at_flat (k : Nat) {l m : List Res} (hk : Rs[k]? = some (.many (l ++ [.many m]))) (h : At n env w0 (Rs.set k (.many (l ++ m))) K) : At n env w0 Rs K := fun a w hf hs => by
  refine h a w hf (hs.chg hk (fun hP => ?_) (fun b hb => ?_) rfl)
  · have hl := List.pairwise_append.1 hP.2
    have hmm := (hP.1 (.many m) (by simp)).1
    refine ⟨fun r hr => ?_, ?_⟩
    · rcases List.mem_append.1 hr with h1 | h1
      · exact hP.1 r (by simp [h1])
      · exact hmm.1 r h1
    · rw [List.pairwise_append]
      exact ⟨hl.1, hmm.2, fun a ha b hb c hc hcb => hl.2.2 a ha _ (List.mem_singleton.2 rfl) c hc ⟨b, hb, hcb⟩⟩
  · obtain ⟨r, hr, hb⟩ := hb
    rcases List.mem_append.1 hr with h1 | h1
    · exact ⟨r, by simp [h1], hb⟩
    · exact ⟨.many m, by simp, r, h1, hb⟩
end
abbrev rpR (T n : Nat) (x : (Option Addr × Nat) × List Pc) : Res := .many [rowR 0 T 1 n (x.2.map Pc.val) x.1, pcsR x.2]
theorem rp_new {w w' : World} {Rs : List Res} (hs : St ⟨w, []⟩ Rs w') {kr kp B T n : Nat} {l : List Pc} {x : Option Addr × Nat} (hr : Rs[kr]? = some (rowR B T 1 n (l.map Pc.val) x)) (hp : Rs[kp]? = some (pcsR l)) (hne : kr ≠ kp) :
    (rpR T n (x, l)).P w' ∧ (∀ b, (rpR T n (x, l)).F b → w.heap.size ≤ b) := by
  have h1 := hs.all kr _ hr
  have h2 := hs.all kp _ hp
  refine ⟨many2 (row_low (h1.1 : w'.ownsRow B T 1 (.slice x.1 n x.2) n (l.map Pc.val)) (Nat.zero_le _)) h2.1 rfl rfl (fun b hb => hs.apart kr kp _ _ hne hr hp b hb), fun b hb => ?_⟩
  obtain ⟨r, hr', hb⟩ := hb
  simp only [List.mem_cons, List.not_mem_nil, or_false] at hr'
  rcases hr' with rfl | rfl
  · exact (h1.2.1 b hb).elim id (fun h => by cases h)
  · exact (h2.2.1 b hb).elim id (fun h => by cases h)
/-- A slice of rings taken from a region of which all rings have points. -/
theorem copyRegion_rp (A : Option Addr) (n c : Nat) (rs : List Ring_) (w : World) (h : Rings w A n rs) (hr : regionB rs = true) :
    Calls Try.prog 83 #[regV A n c] w fun e w' => ∃ x : (Option Addr × Nat) × List Pc, e = .returned (regV x.1.1 n x.1.2) ∧ Over w w' ∧ (rpR 38 n x).P w' ∧ (∀ b, (rpR 38 n x).F b → w.heap.size ≤ b) ∧ (rpR 38 n x).B = 0 ∧ x.2.map (·.xs) = rs := by
  have hl := h.1
  have hn40 := reg_len hr
  refine walk_from (m := 25) (Try.func83) rfl rfl (Nat.le_of_ble_eq_true rfl) ?_
  refine at_seq ?_
  refine at_region ?_
  refine at_op rfl ?_
  refine op_box rfl rfl (rfl) rfl (by decide) (fun b1 => ?_)
  refine at_rsE (by simp only [List.nil_append, List.cons_append, List.set_cons_zero, List.set_cons_succ, Value.cells, List.toList_toArray]; rfl) ?_
  refine at_op rfl ?_
  refine op_alloc rfl tyz_impl_Region rfl (by decide) (fun b2 => ?_)
  refine at_rsE (by simp only [List.nil_append, List.cons_append, List.set_cons_zero, List.set_cons_succ, Value.cells, List.toList_toArray]; rfl) ?_
  refine at_end ?_
  refine at_seq ?_
  refine at_region ?_
  refine at_q rfl rfl (by decide) (qt_build rfl rfl (bld_impl_Region_)) ?_
  refine at_op rfl ?_
  refine op_alloc rfl tyz_impl_Region rfl (by decide) (fun b3 => ?_)
  refine at_rsE (by simp only [List.nil_append, List.cons_append, List.set_cons_zero, List.set_cons_succ, Value.cells, List.toList_toArray]; rfl) ?_
  refine at_op rfl ?_
  refine op_storeAll' (k := 2) rfl rfl rfl rfl (rfl) (by rfl) tyz_impl_Region.szx rfl rfl rfl ?_
  refine at_rsE (by simp only [List.nil_append, List.cons_append, List.set_cons_zero, List.set_cons_succ, Value.cells, List.toList_toArray]; rfl) ?_
  refine at_end ?_
  refine at_row0 (T := 38) (s := 1) ?_
  refine at_rsE (by simp only [List.nil_append, List.cons_append, List.set_cons_zero, List.set_cons_succ, List.eraseIdx_cons_zero, List.eraseIdx_cons_succ, Value.cells, List.toList_toArray]; rfl) ?_
  refine at_many0 ?_
  refine at_rsE (by simp only [List.nil_append, List.cons_append, List.set_cons_zero, List.set_cons_succ, List.eraseIdx_cons_zero, List.eraseIdx_cons_succ, Value.cells, List.toList_toArray]; rfl) ?_
  refine at_seq ?_
  refine at_seq ?_
  refine at_region ?_
  refine at_q rfl rfl (by decide) (qt_fieldAddr rfl rfl tyf_impl_Region_0) ?_
  refine at_q rfl rfl (by decide) (qt_load1 rfl rfl ty1_sl_impl_Ring (rd1 (k := 0) rfl rfl)) ?_
  refine at_q rfl rfl (by decide) (qt_len rfl rfl tyl_sl_impl_Ring) ?_
  refine at_q rfl rfl (by decide) (qt_move rfl rfl) ?_
  refine at_end ?_
  refine at_block ?_
  refine at_loopc (X := Nat × (Option Addr × Nat) × List Pc) (fun x => x.1 ≤ n ∧ x.2.2.map (·.xs) = rs.take x.1) (fun x => n - x.1) (fun x => [(10, .int .i64 (x.1 : Int))]) (C := [(2, _), (3, _), (8, _), (9, _)]) ⟨rfl, rfl, rfl, rfl, trivial⟩ (fun x => [.cel b1 53 [.slice A n c], .cel b2 53 [.slice none 0 0], .cel b3 53 [.slice x.2.1.1 x.1 x.2.1.2], rowR (Bs.N ⟨w, []⟩) 38 1 x.1 (x.2.2.map Pc.val) x.2.1, pcsR x.2.2]) (0, (none, 0), []) (⟨Nat.zero_le _, rfl⟩) ⟨rfl, rfl, rfl, rfl, rfl, trivial⟩ (fun _ h => h) ?_
  intro ⟨k, ⟨rA, rc⟩, l⟩ hx L hL1
  refine at_envE (by simp only [List.nil_append, List.cons_append]; rfl) ?_
  refine at_rsE (by first | (dsimp only; done) | (dsimp only; rfl) | rfl) ?_
  have hk : k ≤ n := hx.1
  have hmp : l.map (·.xs) = rs.take k := hx.2
  have hlk : l.length = k := by have := congrArg List.length hmp; rw [List.length_map, List.length_take] at this; omega
  refine at_seq ?_
  refine at_region ?_
  refine at_q rfl rfl (by decide) (qt_lss rfl rfl rfl) ?_
  refine at_end ?_
  refine at_seq ?_
  refine at_cond rfl (fun c1 => ?_) (fun c1 => ?_)
  · try simp only [decide_eq_true_eq, decide_eq_false_iff_not, beq_iff_eq, beq_eq_false_iff_ne, Bool.not_eq_true', Bool.not_eq_false', Bool.not_true, Bool.not_false, Int.not_lt, Int.not_le, ne_eq, Nat.not_lt, Nat.not_le] at c1
    have hlt : k < n := (by omega)
    obtain ⟨bb, oo, Ak, ck, rfl, hbB, hcell, hpts, hmax⟩ := h.at_ hlt
    have hpos := pos_of_ring (regRing hr (show k < rs.length by omega))
    refine at_skip ?_
    refine norm_then ?_
    refine at_seq ?_
    refine at_block ?_
    refine at_seq ?_
    refine at_region ?_
    refine at_q rfl rfl (by decide) (qt_index rfl rfl rfl tyl_sl_impl_Ring (by omega)) ?_
    refine at_q rfl rfl (by decide) (qt_loadS rfl rfl tys_impl_Ring rfl (rdOld1 hcell hbB)) ?_
    refine at_op rfl ?_
    refine op_alloc rfl tyz_impl_Ring rfl (by decide) (fun b4 => ?_)
    refine at_rsE (by simp only [List.nil_append, List.cons_append, List.set_cons_zero, List.set_cons_succ, Value.cells, List.toList_toArray]; rfl) ?_
    refine at_op rfl ?_
    refine op_storeAll' (k := 5) rfl rfl rfl rfl (rfl) (by rfl) tyz_impl_Ring.szx rfl rfl rfl ?_
    refine at_rsE (by simp only [List.nil_append, List.cons_append, List.set_cons_zero, List.set_cons_succ, Value.cells, List.toList_toArray]; rfl) ?_
    refine at_end ?_
    refine dg_start mixed rfl ?_
    refine dg_phase 7 ?_
    refine dg_q (i := 0) rfl (by kernel_rfl) (by kernel_rfl) (by kernel_rfl) [1] (by kernel_rfl) (fun _ _ _ h => h) rfl rfl (by decide) (fun _ h => h.upto ⟨rfl, rfl, rfl, rfl, rfl, rfl, trivial⟩) (qt_fieldAddr rfl rfl tyf_impl_Region_0) ?_
    refine dg_q (i := 1) rfl (by kernel_rfl) (by kernel_rfl) (by kernel_rfl) [] (by kernel_rfl) (fun _ _ _ h => h) rfl rfl (by decide) (fun _ h => h.upto ⟨rfl, rfl, rfl, rfl, rfl, rfl, trivial⟩) (qt_load1 rfl rfl ty1_sl_impl_Ring (rd1 (k := 2) rfl rfl)) ?_
    refine dg_q (i := 2) rfl (by kernel_rfl) (by kernel_rfl) (by kernel_rfl) [3, 4] (by kernel_rfl) (fun _ _ _ h => h) rfl rfl (by decide) (fun _ h => h.upto ⟨rfl, rfl, rfl, rfl, rfl, rfl, trivial⟩) (qt_fieldAddr rfl rfl tyf_impl_Ring_0) ?_
    refine dg_q (i := 3) rfl (by kernel_rfl) (by kernel_rfl) (by kernel_rfl) [4] (by kernel_rfl) (fun _ _ _ h => h) rfl rfl (by decide) (fun _ h => h.upto ⟨rfl, rfl, rfl, rfl, rfl, rfl, trivial⟩) (qt_load1 rfl rfl ty1_sl_impl_Pt (rd1 (k := 5) rfl rfl)) ?_
    refine dg_one (i := 4) rfl (by decide) (by kernel_rfl) rfl ?_
    refine op_call ok_slices_Clone_sl_impl_Pt_impl_Pt (v := fun x => .slice x.1 _ x.2) (r := fun x => rowR 0 24 2 _ _ x) (H := fun _ => True) rfl rfl rfl (by decide) (fun w1 hs => newRow' (ClonePt_any Ak _ ck (rg rs k) w1 (hpts.over hs.fin) hpos.1 (by omega))) ?_
    rintro ⟨cA, cc⟩ -
    refine at_rsE (by simp only [List.nil_append, List.cons_append, List.set_cons_zero, List.set_cons_succ, Value.cells, List.toList_toArray]; rfl) ?_
    refine dr_more (fun _ h => h.upto ⟨rfl, rfl, rfl, rfl, rfl, rfl, trivial⟩) ?_
    refine dg_q (i := 5) rfl (by kernel_rfl) (by kernel_rfl) (by kernel_rfl) [6] (by kernel_rfl) (fun _ _ _ h => h) rfl rfl (by decide) (fun _ h => h.upto ⟨rfl, rfl, rfl, rfl, rfl, rfl, rfl, trivial⟩) (qt_build rfl rfl (bld_impl_Ring_0 rfl)) ?_
    refine dg_one (i := 6) rfl (by decide) (by kernel_rfl) rfl ?_
    refine op_buildSlice rfl rfl (bsl_sl_impl_Ring_1_0 rfl) rfl (by decide) (fun b5 => ?_)
    refine at_rsE (by simp only [List.nil_append, List.cons_append, List.set_cons_zero, List.set_cons_succ, Value.cells, List.toList_toArray]; rfl) ?_
    refine dr_keep (fun _ h => h.upto ⟨rfl, rfl, rfl, rfl, rfl, rfl, rfl, trivial⟩) ?_
    refine dg_bar rfl (by kernel_rfl) rfl ?_
    refine op_appendR (k := 3) rfl tyl_sl_impl_Ring tyz_impl_Ring (by decide) rfl (by decide) rfl rfl rfl (fun w' hs => src_cel hs (k := 7) rfl rfl) (by simp [Value.oneCell']) (by unfold maxLen; omega) (by omega) (Nat.le_refl _) (fun r1 => ?_)
    refine at_rsE (by simp only [List.nil_append, List.cons_append, List.set_cons_zero, List.set_cons_succ, Value.cells, List.toList_toArray]; rfl) ?_
    refine dg_phaseW 10 [2] ?_
    refine dg_q (i := 8) rfl (by kernel_rfl) (by kernel_rfl) (by kernel_rfl) [] (by kernel_rfl) (fun _ _ _ h => h) rfl rfl (by decide) (fun _ h => (h.wk [2]).upto ⟨rfl, rfl, rfl, rfl, rfl, rfl, rfl, rfl, trivial⟩) (qt_fieldAddr rfl rfl tyf_impl_Region_0) ?_
    refine dg_one (i := 9) rfl (by decide) (by kernel_rfl) rfl ?_
    refine op_storeAll' (k := 2) rfl rfl rfl rfl (rfl) (by rfl) tyz_sl_impl_Ring.szx rfl rfl rfl ?_
    refine at_rsE (by simp only [List.nil_append, List.cons_append, List.set_cons_zero, List.set_cons_succ, Value.cells, List.toList_toArray]; rfl) ?_
    refine dr_keep (fun _ h => (h.wk [2]).upto ⟨rfl, rfl, rfl, rfl, rfl, rfl, rfl, rfl, trivial⟩) ?_
    refine dg_done (by kernel_rfl) ?_
    refine at_pc 6 rfl rfl (fun clo chi => ?_)
    refine at_rsE (by simp only [List.nil_append, List.cons_append, List.set_cons_zero, List.set_cons_succ, List.eraseIdx_cons_zero, List.eraseIdx_cons_succ, Value.cells, List.toList_toArray]; rfl) ?_
    refine at_push 4 6 rfl rfl (by decide) rfl ?_
    refine at_rsE (by simp only [List.nil_append, List.cons_append, List.set_cons_zero, List.set_cons_succ, List.eraseIdx_cons_zero, List.eraseIdx_cons_succ, Value.cells, List.toList_toArray]; rfl) ?_
    refine norm_block ?_
    refine norm_then ?_
    refine at_region ?_
    refine at_q rfl rfl (by decide) (qt_add rfl rfl rfl (by omega) (by omega)) ?_
    refine at_q rfl rfl (by decide) (qt_move rfl rfl) ?_
    refine at_end ?_
    exact at_againc hL1 ((k + 1, r1, l ++ [⟨rg rs k, cA, cc, clo, chi⟩])) (⟨show k + 1 ≤ n by omega, by rw [List.map_append, hmp, take_step (by omega)]; rfl⟩) (by simp only; omega) ⟨vi (by omega), rfl, rfl, rfl, rfl, trivial⟩ (fun _ h => h.upto ⟨rfl, rfl, rfl, by rw [List.map_append]; rfl, (pcsR_push _ _).symm, trivial⟩)
  · try simp only [decide_eq_true_eq, decide_eq_false_iff_not, beq_iff_eq, beq_eq_false_iff_ne, Bool.not_eq_true', Bool.not_eq_false', Bool.not_true, Bool.not_false, Int.not_lt, Int.not_le, ne_eq, Nat.not_lt, Nat.not_le] at c1
    have hkn : k = n := (by omega)
    refine at_exit ?_
    refine pass_then (fun h => by cases h) ?_
    refine pass_then (fun h => by cases h) ?_
    refine pass_hit ?_
    refine norm_then ?_
    refine at_seq ?_
    refine at_region ?_
    refine at_q rfl rfl (by decide) (qt_loadS rfl rfl tys_impl_Region rfl (rdAll (k := 2) rfl)) ?_
    refine at_op rfl ?_
    refine op_storeAll' (k := 1) rfl rfl rfl rfl (rfl) (by rfl) tyz_impl_Region.szx rfl rfl rfl ?_
    refine at_rsE (by simp only [List.nil_append, List.cons_append, List.set_cons_zero, List.set_cons_succ, Value.cells, List.toList_toArray]; rfl) ?_
    refine at_end ?_
    refine at_retc ?_
    refine at_ret1 rfl (rvCelS (k := 1) rfl tys_impl_Region rfl rfl) ?_
    intro w' hs
    subst hkn
    have hrs : l.map (·.xs) = rs := by rw [hmp, List.take_of_length_le (by omega)]
    obtain ⟨p1, p2⟩ := rp_new hs (kr := 3) (kp := 4) rfl rfl (by decide)
    exact ⟨((rA, rc), l), rfl, hs.fin, p1, p2, rfl, hrs⟩

theorem rpSrc {w : World} {T n : Nat} {x : (Option Addr × Nat) × List Pc} (h : (rpR T n x).P w) : Src 1 (.slice x.1.1 n x.1.2) n (x.2.map Pc.val) w := by
  have h1 : w.ownsRow 0 T 1 (.slice x.1.1 n x.1.2) n (x.2.map Pc.val) := (h.1 (rowR 0 T 1 n (x.2.map Pc.val) x.1) (by simp)).1
  refine ⟨h1.1, ?_⟩
  rcases h1.2 with ⟨e, rfl⟩ | ⟨g, cap, cur, e, hb, hg, hcap, hrest⟩
  · exact .inl ⟨e, rfl⟩
  · injection e with e1 e2 e3
    refine .inr ⟨_, _, by rw [e1], ?_⟩
    have h2 := h1
    rw [e1, e3] at h2
    exact h2.cells rfl
theorem val_one (l : List Pc) : ∀ u ∈ l.map Pc.val, u.oneCell' = true := by
  intro u hu
  obtain ⟨e, _, rfl⟩ := List.mem_map.1 hu
  rfl
def jnR (rs ss : List Ring_) : List Ring_ := if (regionB rs && regionB ss) = true then fitR (rs ++ ss) else []
def jnC (rs ss : List Ring_) : Int := if (regionB rs && regionB ss) = true then fitC (rs ++ ss) else 1
theorem join_total {rs ss : List Ring_} (hr : regionB rs = true) (hr2 : regionB ss = true) : (total (rs ++ ss) : Int) ≤ 1048577 := by
  have : smallR (rs ++ ss) := ⟨by have := reg_len hr; have := reg_len hr2; rw [List.length_append]; omega, fun j hj => by have := join_lens hr hr2 j hj; omega⟩
  have := this.total
  omega
theorem JoinRegions_any (A A2 : Option Addr) (n c n2 c2_ : Nat) (rs ss : List Ring_) (w : World) (h : Rings w A n rs) (h2 : Rings w A2 n2 ss) (ht : (total rs : Int) ≤ 1048577) (ht2 : (total ss : Int) ≤ 1048577) :
    Calls Try.prog 38 #[regV A n c, regV A2 n2 c2_] w fun e w' => ∃ A' c', e = .returned (.tuple #[regV A' (jnR rs ss).length c', .int .i64 (jnC rs ss)]) ∧ OwnG w.heap.size w'.heap.size w' A' (jnR rs ss).length (jnR rs ss) ∧ Over w w' := by
  have hl := h.1
  have hl2 := h2.1
  refine walk_from (m := 30) (Try.func38) rfl rfl (Nat.le_of_ble_eq_true rfl) ?_
  refine at_seq ?_
  refine at_region ?_
  refine at_op rfl ?_
  refine op_box rfl rfl (rfl) rfl (by decide) (fun b1 => ?_)
  refine at_rsE (by simp only [List.nil_append, List.cons_append, List.set_cons_zero, List.set_cons_succ, Value.cells, List.toList_toArray]; rfl) ?_
  refine at_op rfl ?_
  refine op_box rfl rfl (rfl) rfl (by decide) (fun b2 => ?_)
  refine at_rsE (by simp only [List.nil_append, List.cons_append, List.set_cons_zero, List.set_cons_succ, Value.cells, List.toList_toArray]; rfl) ?_
  refine at_op rfl ?_
  refine op_alloc rfl tyz_impl_Region rfl (by decide) (fun b3 => ?_)
  refine at_rsE (by simp only [List.nil_append, List.cons_append, List.set_cons_zero, List.set_cons_succ, Value.cells, List.toList_toArray]; rfl) ?_
  refine at_q rfl rfl (by decide) (qt_assign rfl rfl) ?_
  refine at_end ?_
  refine at_seq ?_
  refine at_seq ?_
  refine at_region ?_
  refine at_q rfl rfl (by decide) (qt_loadS rfl rfl tys_impl_Region rfl (rdAll (k := 0) rfl)) ?_
  refine at_q rfl rfl (by decide) (qt_call ok_impl_ValidRegion rfl rfl (fun w1 hs => ValidRegion_any A n c rs w1 (h.over hs.fin) ht)) ?_
  refine at_q rfl rfl (by decide) (qt_not rfl rfl) ?_
  refine at_q rfl rfl (by decide) (qt_move rfl rfl) ?_
  refine at_bsplit 10 rfl (fun g1 => ?_) (fun g1 => ?_)
  · try simp only [decide_eq_true_eq, decide_eq_false_iff_not, beq_iff_eq, beq_eq_false_iff_ne, Bool.not_eq_true', Bool.not_eq_false', Bool.not_true, Bool.not_false, Int.not_lt, Int.not_le, ne_eq, Nat.not_lt, Nat.not_le] at g1
    refine at_off rfl rfl rfl rfl (by decide) rfl (by decide) ?_
    refine at_off rfl rfl rfl rfl (by decide) rfl (by decide) ?_
    refine at_off rfl rfl rfl rfl (by decide) rfl (by decide) ?_
    refine at_q rfl rfl (by decide) (qt_pickT rfl rfl rfl) ?_
    refine at_end ?_
    refine at_yes rfl rfl ?_
    refine at_seq ?_
    refine at_region ?_
    refine at_q rfl rfl (by decide) (qt_build rfl rfl (bld_impl_Region_)) ?_
    refine at_op rfl ?_
    refine op_storeAll' (k := 2) rfl rfl rfl rfl (rfl) (by rfl) tyz_impl_Region.szx rfl rfl rfl ?_
    refine at_rsE (by simp only [List.nil_append, List.cons_append, List.set_cons_zero, List.set_cons_succ, Value.cells, List.toList_toArray]; rfl) ?_
    refine at_q rfl rfl (by decide) (qt_assign rfl rfl) ?_
    refine at_end ?_
    refine at_retc ?_
    refine then_ret ?_
    refine at_ret2 rfl (rvCelS (k := 2) rfl tys_impl_Region rfl rfl) (.tmp rfl) ?_
    intro w' hs
    exact ⟨none, 0, by simp [jnR, jnC, g1], by simp only [jnR, g1]; exact OwnG.nil none, hs.fin⟩
  · try simp only [decide_eq_true_eq, decide_eq_false_iff_not, beq_iff_eq, beq_eq_false_iff_ne, Bool.not_eq_true', Bool.not_eq_false', Bool.not_true, Bool.not_false, Int.not_lt, Int.not_le, ne_eq, Nat.not_lt, Nat.not_le] at g1
    refine at_on rfl rfl rfl rfl ?_
    refine op_q rfl (by decide) (qt_loadS rfl rfl tys_impl_Region rfl (rdAll (k := 1) rfl)) ?_
    refine at_on rfl rfl rfl rfl ?_
    refine op_q rfl (by decide) (qt_call ok_impl_ValidRegion rfl rfl (fun w1 hs => ValidRegion_any A2 n2 c2_ ss w1 (h2.over hs.fin) ht2)) ?_
    refine at_on rfl rfl rfl rfl ?_
    refine op_q rfl (by decide) (qt_not rfl rfl) ?_
    refine at_q rfl rfl (by decide) (qt_pickF rfl rfl rfl) ?_
    refine at_end ?_
    refine at_cond rfl (fun c1 => ?_) (fun c1 => ?_)
    · try simp only [decide_eq_true_eq, decide_eq_false_iff_not, beq_iff_eq, beq_eq_false_iff_ne, Bool.not_eq_true', Bool.not_eq_false', Bool.not_true, Bool.not_false, Int.not_lt, Int.not_le, ne_eq, Nat.not_lt, Nat.not_le] at c1
      refine at_seq ?_
      refine at_region ?_
      refine at_q rfl rfl (by decide) (qt_build rfl rfl (bld_impl_Region_)) ?_
      refine at_op rfl ?_
      refine op_storeAll' (k := 2) rfl rfl rfl rfl (rfl) (by rfl) tyz_impl_Region.szx rfl rfl rfl ?_
      refine at_rsE (by simp only [List.nil_append, List.cons_append, List.set_cons_zero, List.set_cons_succ, Value.cells, List.toList_toArray]; rfl) ?_
      refine at_q rfl rfl (by decide) (qt_assign rfl rfl) ?_
      refine at_end ?_
      refine at_retc ?_
      refine then_ret ?_
      refine at_ret2 rfl (rvCelS (k := 2) rfl tys_impl_Region rfl rfl) (.tmp rfl) ?_
      intro w' hs
      exact ⟨none, 0, by simp [jnR, jnC, c1], by simp only [jnR, c1, Bool.and_false]; exact OwnG.nil none, hs.fin⟩
    · try simp only [decide_eq_true_eq, decide_eq_false_iff_not, beq_iff_eq, beq_eq_false_iff_ne, Bool.not_eq_true', Bool.not_eq_false', Bool.not_true, Bool.not_false, Int.not_lt, Int.not_le, ne_eq, Nat.not_lt, Nat.not_le] at c1
      have hr : regionB rs = true := by simpa using g1
      have hr2 : regionB ss = true := by simpa using c1
      have hn40 := reg_len hr
      have hn40' := reg_len hr2
      have eR : jnR rs ss = fitR (rs ++ ss) := by rw [jnR, if_pos (by rw [hr, hr2]; rfl)]
      have eC : jnC rs ss = fitC (rs ++ ss) := by rw [jnC, if_pos (by rw [hr, hr2]; rfl)]
      refine at_skip ?_
      refine norm_then ?_
      refine at_seq ?_
      refine at_region ?_
      refine at_q rfl rfl (by decide) (qt_loadS rfl rfl tys_impl_Region rfl (rdAll (k := 0) rfl)) ?_
      refine at_op rfl ?_
      refine op_call ok_impl_copyRegion (X := (Option Addr × Nat) × List Pc) (v := fun x => regV x.1.1 n x.1.2) (r := fun x => rpR 38 n x) (H := fun x => x.2.map (·.xs) = rs) rfl rfl rfl (by decide) (fun w1 hs => copyRegion_rp A n c rs w1 (h.over hs.fin) hr) ?_
      rintro ⟨⟨gA, gc⟩, l⟩ hlx
      refine at_rsE (by simp only [List.nil_append, List.cons_append, List.set_cons_zero, List.set_cons_succ, Value.cells, List.toList_toArray]; rfl) ?_
      refine at_two 3 rfl ?_
      refine at_rsE (by simp only [List.nil_append, List.cons_append, List.set_cons_zero, List.set_cons_succ, List.eraseIdx_cons_zero, List.eraseIdx_cons_succ, Value.cells, List.toList_toArray]; rfl) ?_
      refine at_op rfl ?_
      refine op_alloc rfl tyz_impl_Region rfl (by decide) (fun b4 => ?_)
      refine at_rsE (by simp only [List.nil_append, List.cons_append, List.set_cons_zero, List.set_cons_succ, Value.cells, List.toList_toArray]; rfl) ?_
      refine at_op rfl ?_
      refine op_storeAll' (k := 5) rfl rfl rfl rfl (rfl) (by rfl) tyz_impl_Region.szx rfl rfl rfl ?_
      refine at_rsE (by simp only [List.nil_append, List.cons_append, List.set_cons_zero, List.set_cons_succ, Value.cells, List.toList_toArray]; rfl) ?_
      refine at_end ?_
      refine at_seq ?_
      refine dg_start mixed rfl ?_
      refine dg_phase 5 ?_
      refine dg_q (i := 0) rfl (by kernel_rfl) (by kernel_rfl) (by kernel_rfl) [1] (by kernel_rfl) (fun _ _ _ h => h) rfl rfl (by decide) (fun _ h => h.upto ⟨rfl, rfl, rfl, rfl, rfl, rfl, trivial⟩) (qt_fieldAddr rfl rfl tyf_impl_Region_0) ?_
      refine dg_q (i := 1) rfl (by kernel_rfl) (by kernel_rfl) (by kernel_rfl) [] (by kernel_rfl) (fun _ _ _ h => h) rfl rfl (by decide) (fun _ h => h.upto ⟨rfl, rfl, rfl, rfl, rfl, rfl, trivial⟩) (qt_load1 rfl rfl ty1_sl_impl_Ring (rd1 (k := 5) rfl rfl)) ?_
      refine dg_q (i := 2) rfl (by kernel_rfl) (by kernel_rfl) (by kernel_rfl) [3] (by kernel_rfl) (fun _ _ _ h => h) rfl rfl (by decide) (fun _ h => h.upto ⟨rfl, rfl, rfl, rfl, rfl, rfl, trivial⟩) (qt_loadS rfl rfl tys_impl_Region rfl (rdAll (k := 1) rfl)) ?_
      refine dg_one (i := 3) rfl (by decide) (by kernel_rfl) rfl ?_
      refine op_call ok_impl_copyRegion (X := (Option Addr × Nat) × List Pc) (v := fun x => regV x.1.1 n2 x.1.2) (r := fun x => rpR 38 n2 x) (H := fun x => x.2.map (·.xs) = ss) rfl rfl rfl (by decide) (fun w1 hs => copyRegion_rp A2 n2 c2_ ss w1 (h2.over hs.fin) hr2) ?_
      rintro ⟨⟨kA, kc⟩, m⟩ hmx
      refine at_rsE (by simp only [List.nil_append, List.cons_append, List.set_cons_zero, List.set_cons_succ, Value.cells, List.toList_toArray]; rfl) ?_
      refine dr_more (fun _ h => h.upto ⟨rfl, rfl, rfl, rfl, rfl, rfl, trivial⟩) ?_
      refine dg_q (i := 4) rfl (by kernel_rfl) (by kernel_rfl) (by kernel_rfl) [] (by kernel_rfl) (fun _ _ _ h => h) rfl rfl (by decide) (fun _ h => h.upto ⟨rfl, rfl, rfl, rfl, rfl, rfl, rfl, trivial⟩) (qt_field rfl rfl tyg_impl_Region_0 rfl) ?_
      refine dg_bar rfl (by kernel_rfl) rfl ?_
      refine op_appendR (k := 3) rfl tyl_sl_impl_Ring tyz_impl_Ring (by decide) rfl (by decide) rfl rfl rfl (fun w' hs => rpSrc (hs.all 6 _ rfl).1) (val_one _) (by unfold maxLen; omega) (by omega) (Nat.zero_le _) (fun r1 => ?_)
      refine at_rsE (by simp only [List.nil_append, List.cons_append, List.set_cons_zero, List.set_cons_succ, Value.cells, List.toList_toArray]; rfl) ?_
      refine dg_phaseW 8 [5] ?_
      refine dg_q (i := 6) rfl (by kernel_rfl) (by kernel_rfl) (by kernel_rfl) [] (by kernel_rfl) (fun _ _ _ h => h) rfl rfl (by decide) (fun _ h => (h.wk [5]).upto ⟨rfl, rfl, rfl, rfl, rfl, rfl, rfl, trivial⟩) (qt_fieldAddr rfl rfl tyf_impl_Region_0) ?_
      refine dg_one (i := 7) rfl (by decide) (by kernel_rfl) rfl ?_
      refine op_storeAll' (k := 5) rfl rfl rfl rfl (rfl) (by rfl) tyz_sl_impl_Ring.szx rfl rfl rfl ?_
      refine at_rsE (by simp only [List.nil_append, List.cons_append, List.set_cons_zero, List.set_cons_succ, Value.cells, List.toList_toArray]; rfl) ?_
      refine dr_keep (fun _ h => (h.wk [5]).upto ⟨rfl, rfl, rfl, rfl, rfl, rfl, rfl, trivial⟩) ?_
      refine dg_done (by kernel_rfl) ?_
      refine at_two 6 rfl ?_
      refine at_rsE (by simp only [List.nil_append, List.cons_append, List.set_cons_zero, List.set_cons_succ, List.eraseIdx_cons_zero, List.eraseIdx_cons_succ, Value.cells, List.toList_toArray]; rfl) ?_
      refine at_push 4 7 rfl rfl (by decide) rfl ?_
      refine at_rsE (by simp only [List.nil_append, List.cons_append, List.set_cons_zero, List.set_cons_succ, List.eraseIdx_cons_zero, List.eraseIdx_cons_succ, Value.cells, List.toList_toArray]; rfl) ?_
      refine at_flat 4 rfl ?_
      refine at_rsE (by simp only [List.nil_append, List.cons_append, List.set_cons_zero, List.set_cons_succ, List.eraseIdx_cons_zero, List.eraseIdx_cons_succ, Value.cells, List.toList_toArray]; rfl) ?_
      rw [← List.map_append]
      rw [← List.map_append]
      have hlm : (l ++ m).map (·.xs) = rs ++ ss := by rw [List.map_append, hlx, hmx]
      have hlen : (l ++ m).length = n + n2 := by have := congrArg List.length hlm; rw [List.length_map] at this; rw [this, List.length_append]; omega
      have hjl := join_lens hr hr2
      refine norm_then ?_
      refine at_seq ?_
      refine at_seq ?_
      refine at_region ?_
      refine at_q rfl rfl (by decide) (qt_loadS rfl rfl tys_impl_Region rfl (rdAll (k := 5) rfl)) ?_
      refine at_q rfl rfl (by decide) (qt_call ok_impl_ValidRegion rfl rfl (fun w1 hs => ValidRegion_any _ _ _ (rs ++ ss) w1 (pcs_row hs (kr := 3) (kp := 4) rfl rfl (by decide) rfl hlen hlm (fun i hi => by have := hjl i hi; omega)).rings (join_total hr hr2))) ?_
      refine at_q rfl rfl (by decide) (qt_not rfl rfl) ?_
      refine at_end ?_
      refine at_cond rfl (fun c2 => ?_) (fun c2 => ?_)
      · try simp only [decide_eq_true_eq, decide_eq_false_iff_not, beq_iff_eq, beq_eq_false_iff_ne, Bool.not_eq_true', Bool.not_eq_false', Bool.not_true, Bool.not_false, Int.not_lt, Int.not_le, ne_eq, Nat.not_lt, Nat.not_le] at c2
        refine at_seq ?_
        refine at_region ?_
        refine at_q rfl rfl (by decide) (qt_build rfl rfl (bld_impl_Region_)) ?_
        refine at_op rfl ?_
        refine op_storeAll' (k := 2) rfl rfl rfl rfl (rfl) (by rfl) tyz_impl_Region.szx rfl rfl rfl ?_
        refine at_rsE (by simp only [List.nil_append, List.cons_append, List.set_cons_zero, List.set_cons_succ, Value.cells, List.toList_toArray]; rfl) ?_
        refine at_q rfl rfl (by decide) (qt_assign rfl rfl) ?_
        refine at_end ?_
        refine at_retc ?_
        refine then_ret ?_
        refine at_ret2 rfl (rvCelS (k := 2) rfl tys_impl_Region rfl rfl) (.tmp rfl) ?_
        intro w' hs
        exact ⟨none, 0, by rw [eR, eC]; simp [fitR, fitC, c2], by rw [eR]; simp only [fitR, c2]; exact OwnG.nil none, hs.fin⟩
      · try simp only [decide_eq_true_eq, decide_eq_false_iff_not, beq_iff_eq, beq_eq_false_iff_ne, Bool.not_eq_true', Bool.not_eq_false', Bool.not_true, Bool.not_false, Int.not_lt, Int.not_le, ne_eq, Nat.not_lt, Nat.not_le] at c2
        refine at_skip ?_
        refine norm_then ?_
        refine at_seq ?_
        refine at_region ?_
        refine at_q rfl rfl (by decide) (qt_loadS rfl rfl tys_impl_Region rfl (rdAll (k := 5) rfl)) ?_
        refine at_op rfl ?_
        refine op_storeAll' (k := 2) rfl rfl rfl rfl (rfl) (by rfl) tyz_impl_Region.szx rfl rfl rfl ?_
        refine at_rsE (by simp only [List.nil_append, List.cons_append, List.set_cons_zero, List.set_cons_succ, Value.cells, List.toList_toArray]; rfl) ?_
        refine at_q rfl rfl (by decide) (qt_assign rfl rfl) ?_
        refine at_end ?_
        refine at_retc ?_
        refine at_ret2 rfl (rvCelS (k := 2) rfl tys_impl_Region rfl rfl) (.tmp rfl) ?_
        intro w' hs
        refine ⟨r1.1, r1.2, ?_, ?_, hs.fin⟩
        rw [eR, eC]; simp [fitR, fitC, c2, hl, hl2]
        rw [eR, fitR, if_pos c2, List.length_append, hl, hl2]; exact pcs_row hs (kr := 3) (kp := 4) rfl rfl (by decide) rfl hlen hlm (fun i hi => by have := hjl i hi; omega)

theorem l13Fit_any (A : Option Addr) (n c : Nat) (rs : List Ring_) (w : World) (h : Rings w A n rs) (ht : (total rs : Int) ≤ 1048577) :
    Calls Try.prog 87 #[regV A n c] w fun e w' => e = .returned (.tuple #[regV (if regionB rs = true then A else none) (if regionB rs = true then n else 0) (if regionB rs = true then c else 0), .int .i64 (fitC rs)]) ∧ Over w w' := by
  refine walk_from (m := 8) (Try.func87) rfl rfl (Nat.le_of_ble_eq_true rfl) ?_
  refine at_seq ?_
  refine at_region ?_
  refine at_op rfl ?_
  refine op_box rfl rfl (rfl) rfl (by decide) (fun b1 => ?_)
  refine at_rsE (by simp only [List.nil_append, List.cons_append, List.set_cons_zero, List.set_cons_succ, Value.cells, List.toList_toArray]; rfl) ?_
  refine at_op rfl ?_
  refine op_alloc rfl tyz_impl_Region rfl (by decide) (fun b2 => ?_)
  refine at_rsE (by simp only [List.nil_append, List.cons_append, List.set_cons_zero, List.set_cons_succ, Value.cells, List.toList_toArray]; rfl) ?_
  refine at_q rfl rfl (by decide) (qt_assign rfl rfl) ?_
  refine at_end ?_
  refine at_seq ?_
  refine at_seq ?_
  refine at_region ?_
  refine at_q rfl rfl (by decide) (qt_call ok_spec_l13Ok rfl rfl (fun w1 hs => l13Ok_any _ _ A n c rs w1 (rd1 (k := 0) rfl rfl w1 hs) (lt_of_some (hs.cel (k := 0) rfl)) (h.over hs.fin) ht)) ?_
  refine at_q rfl rfl (by decide) (qt_not rfl rfl) ?_
  refine at_end ?_
  refine at_cond rfl (fun c1 => ?_) (fun c1 => ?_)
  · try simp only [decide_eq_true_eq, decide_eq_false_iff_not, beq_iff_eq, beq_eq_false_iff_ne, Bool.not_eq_true', Bool.not_eq_false', Bool.not_true, Bool.not_false, Int.not_lt, Int.not_le, ne_eq, Nat.not_lt, Nat.not_le] at c1
    refine at_seq ?_
    refine at_region ?_
    refine at_q rfl rfl (by decide) (qt_build rfl rfl (bld_impl_Region_)) ?_
    refine at_op rfl ?_
    refine op_storeAll' (k := 1) rfl rfl rfl rfl (rfl) (by rfl) tyz_impl_Region.szx rfl rfl rfl ?_
    refine at_rsE (by simp only [List.nil_append, List.cons_append, List.set_cons_zero, List.set_cons_succ, Value.cells, List.toList_toArray]; rfl) ?_
    refine at_q rfl rfl (by decide) (qt_assign rfl rfl) ?_
    refine at_end ?_
    refine at_retc ?_
    refine then_ret ?_
    refine at_ret2 rfl (rvCelS (k := 1) rfl tys_impl_Region rfl rfl) (.tmp rfl) ?_
    intro w' hs
    exact ⟨by simp [fitC, c1], hs.fin⟩
  · try simp only [decide_eq_true_eq, decide_eq_false_iff_not, beq_iff_eq, beq_eq_false_iff_ne, Bool.not_eq_true', Bool.not_eq_false', Bool.not_true, Bool.not_false, Int.not_lt, Int.not_le, ne_eq, Nat.not_lt, Nat.not_le] at c1
    refine at_skip ?_
    refine norm_then ?_
    refine at_seq ?_
    refine at_region ?_
    refine at_q rfl rfl (by decide) (qt_loadS rfl rfl tys_impl_Region rfl (rdAll (k := 0) rfl)) ?_
    refine at_op rfl ?_
    refine op_storeAll' (k := 1) rfl rfl rfl rfl (rfl) (by rfl) tyz_impl_Region.szx rfl rfl rfl ?_
    refine at_rsE (by simp only [List.nil_append, List.cons_append, List.set_cons_zero, List.set_cons_succ, Value.cells, List.toList_toArray]; rfl) ?_
    refine at_q rfl rfl (by decide) (qt_assign rfl rfl) ?_
    refine at_end ?_
    refine at_retc ?_
    refine at_ret2 rfl (rvCelS (k := 1) rfl tys_impl_Region rfl rfl) (.tmp rfl) ?_
    intro w' hs
    exact ⟨by simp [fitC, c1], hs.fin⟩
theorem specJoinRegions_any (A A2 : Option Addr) (n c n2 c2_ : Nat) (rs ss : List Ring_) (w : World) (h : Rings w A n rs) (h2 : Rings w A2 n2 ss) (ht : (total rs : Int) ≤ 1048577) (ht2 : (total ss : Int) ≤ 1048577) :
    Calls Try.prog 37 #[regV A n c, regV A2 n2 c2_] w fun e w' => ∃ A' c', e = .returned (.tuple #[regV A' (jnR rs ss).length c', .int .i64 (jnC rs ss)]) ∧ OwnG w.heap.size w'.heap.size w' A' (jnR rs ss).length (jnR rs ss) ∧ Over w w' := by
  have hl := h.1
  have hl2 := h2.1
  refine walk_from (m := 17) (Try.func37) rfl rfl (Nat.le_of_ble_eq_true rfl) ?_
  refine at_seq ?_
  refine at_region ?_
  refine at_op rfl ?_
  refine op_box rfl rfl (rfl) rfl (by decide) (fun b1 => ?_)
  refine at_rsE (by simp only [List.nil_append, List.cons_append, List.set_cons_zero, List.set_cons_succ, Value.cells, List.toList_toArray]; rfl) ?_
  refine at_op rfl ?_
  refine op_box rfl rfl (rfl) rfl (by decide) (fun b2 => ?_)
  refine at_rsE (by simp only [List.nil_append, List.cons_append, List.set_cons_zero, List.set_cons_succ, Value.cells, List.toList_toArray]; rfl) ?_
  refine at_op rfl ?_
  refine op_alloc rfl tyz_impl_Region rfl (by decide) (fun b3 => ?_)
  refine at_rsE (by simp only [List.nil_append, List.cons_append, List.set_cons_zero, List.set_cons_succ, Value.cells, List.toList_toArray]; rfl) ?_
  refine at_q rfl rfl (by decide) (qt_assign rfl rfl) ?_
  refine at_end ?_
  refine at_seq ?_
  refine at_seq ?_
  refine at_region ?_
  refine at_q rfl rfl (by decide) (qt_call ok_spec_l13Ok rfl rfl (fun w1 hs => l13Ok_any _ _ A n c rs w1 (rd1 (k := 0) rfl rfl w1 hs) (lt_of_some (hs.cel (k := 0) rfl)) (h.over hs.fin) ht)) ?_
  refine at_q rfl rfl (by decide) (qt_not rfl rfl) ?_
  refine at_q rfl rfl (by decide) (qt_move rfl rfl) ?_
  refine at_bsplit 8 rfl (fun g1 => ?_) (fun g1 => ?_)
  · try simp only [decide_eq_true_eq, decide_eq_false_iff_not, beq_iff_eq, beq_eq_false_iff_ne, Bool.not_eq_true', Bool.not_eq_false', Bool.not_true, Bool.not_false, Int.not_lt, Int.not_le, ne_eq, Nat.not_lt, Nat.not_le] at g1
    refine at_off rfl rfl rfl rfl (by decide) rfl (by decide) ?_
    refine at_off rfl rfl rfl rfl (by decide) rfl (by decide) ?_
    refine at_q rfl rfl (by decide) (qt_pickT rfl rfl rfl) ?_
    refine at_end ?_
    refine at_yes rfl rfl ?_
    refine at_seq ?_
    refine at_region ?_
    refine at_q rfl rfl (by decide) (qt_build rfl rfl (bld_impl_Region_)) ?_
    refine at_op rfl ?_
    refine op_storeAll' (k := 2) rfl rfl rfl rfl (rfl) (by rfl) tyz_impl_Region.szx rfl rfl rfl ?_
    refine at_rsE (by simp only [List.nil_append, List.cons_append, List.set_cons_zero, List.set_cons_succ, Value.cells, List.toList_toArray]; rfl) ?_
    refine at_q rfl rfl (by decide) (qt_assign rfl rfl) ?_
    refine at_end ?_
    refine at_retc ?_
    refine then_ret ?_
    refine at_ret2 rfl (rvCelS (k := 2) rfl tys_impl_Region rfl rfl) (.tmp rfl) ?_
    intro w' hs
    exact ⟨none, 0, by simp [jnR, jnC, g1], by simp only [jnR, g1]; exact OwnG.nil none, hs.fin⟩
  · try simp only [decide_eq_true_eq, decide_eq_false_iff_not, beq_iff_eq, beq_eq_false_iff_ne, Bool.not_eq_true', Bool.not_eq_false', Bool.not_true, Bool.not_false, Int.not_lt, Int.not_le, ne_eq, Nat.not_lt, Nat.not_le] at g1
    refine at_on rfl rfl rfl rfl ?_
    refine op_q rfl (by decide) (qt_call ok_spec_l13Ok rfl rfl (fun w1 hs => l13Ok_any _ _ A2 n2 c2_ ss w1 (rd1 (k := 1) rfl rfl w1 hs) (lt_of_some (hs.cel (k := 1) rfl)) (h2.over hs.fin) ht2)) ?_
    refine at_on rfl rfl rfl rfl ?_
    refine op_q rfl (by decide) (qt_not rfl rfl) ?_
    refine at_q rfl rfl (by decide) (qt_pickF rfl rfl rfl) ?_
    refine at_end ?_
    refine at_cond rfl (fun c1 => ?_) (fun c1 => ?_)
    · try simp only [decide_eq_true_eq, decide_eq_false_iff_not, beq_iff_eq, beq_eq_false_iff_ne, Bool.not_eq_true', Bool.not_eq_false', Bool.not_true, Bool.not_false, Int.not_lt, Int.not_le, ne_eq, Nat.not_lt, Nat.not_le] at c1
      refine at_seq ?_
      refine at_region ?_
      refine at_q rfl rfl (by decide) (qt_build rfl rfl (bld_impl_Region_)) ?_
      refine at_op rfl ?_
      refine op_storeAll' (k := 2) rfl rfl rfl rfl (rfl) (by rfl) tyz_impl_Region.szx rfl rfl rfl ?_
      refine at_rsE (by simp only [List.nil_append, List.cons_append, List.set_cons_zero, List.set_cons_succ, Value.cells, List.toList_toArray]; rfl) ?_
      refine at_q rfl rfl (by decide) (qt_assign rfl rfl) ?_
      refine at_end ?_
      refine at_retc ?_
      refine then_ret ?_
      refine at_ret2 rfl (rvCelS (k := 2) rfl tys_impl_Region rfl rfl) (.tmp rfl) ?_
      intro w' hs
      exact ⟨none, 0, by simp [jnR, jnC, c1], by simp only [jnR, c1, Bool.and_false]; exact OwnG.nil none, hs.fin⟩
    · try simp only [decide_eq_true_eq, decide_eq_false_iff_not, beq_iff_eq, beq_eq_false_iff_ne, Bool.not_eq_true', Bool.not_eq_false', Bool.not_true, Bool.not_false, Int.not_lt, Int.not_le, ne_eq, Nat.not_lt, Nat.not_le] at c1
      have hr : regionB rs = true := by simpa using g1
      have hr2 : regionB ss = true := by simpa using c1
      have hn40 := reg_len hr
      have hn40' := reg_len hr2
      have eR : jnR rs ss = fitR (rs ++ ss) := by rw [jnR, if_pos (by rw [hr, hr2]; rfl)]
      have eC : jnC rs ss = fitC (rs ++ ss) := by rw [jnC, if_pos (by rw [hr, hr2]; rfl)]
      refine at_skip ?_
      refine norm_then ?_
      refine at_seq ?_
      refine at_region ?_
      refine at_op rfl ?_
      refine op_call ok_spec_l13Join (X := (Option Addr × Nat) × Nat × Nat) (v := fun x => regV x.1.1 _ x.1.2) (r := fun x => gegR _ _ x.2.1 x.2.2 x.1.1) (H := fun _ => True) rfl rfl rfl (by decide) (fun w1 hs => gegNew (l13Join_any _ _ _ _ A A2 n c n2 c2_ rs ss w1 (rd1 (k := 0) rfl rfl w1 hs) (lt_of_some (hs.cel (k := 0) rfl)) (rd1 (k := 1) rfl rfl w1 hs) (lt_of_some (hs.cel (k := 1) rfl)) (h.over hs.fin) (h2.over hs.fin) hr hr2)) ?_
      rintro ⟨⟨gA, gc⟩, glo, ghi⟩ -
      refine at_rsE (by simp only [List.nil_append, List.cons_append, List.set_cons_zero, List.set_cons_succ, Value.cells, List.toList_toArray]; rfl) ?_
      refine at_q rfl rfl (by decide) (qt_call ok_spec_l13Fit rfl rfl (fun w1 hs => l13Fit_any _ _ _ (rs ++ ss) w1 (gegRings (k := 3) rfl w1 hs) (join_total hr hr2))) ?_
      refine at_q rfl rfl (by decide) (qt_extract rfl rfl rfl) ?_
      refine at_q rfl rfl (by decide) (qt_extract rfl rfl rfl) ?_
      refine at_op rfl ?_
      refine op_storeAll' (k := 2) rfl rfl rfl rfl (rfl) (by rfl) tyz_impl_Region.szx rfl rfl rfl ?_
      refine at_rsE (by simp only [List.nil_append, List.cons_append, List.set_cons_zero, List.set_cons_succ, Value.cells, List.toList_toArray]; rfl) ?_
      refine at_q rfl rfl (by decide) (qt_assign rfl rfl) ?_
      refine at_end ?_
      refine at_retc ?_
      refine at_ret2 rfl (rvCelS (k := 2) rfl tys_impl_Region rfl rfl) (.tmp rfl) ?_
      intro w' hs
      have hg := hs.all 3 _ rfl
      have ho : OwnG w.heap.size w'.heap.size w' gA (n + n2) (rs ++ ss) := gegTop hg.1 (fun b hb => (hg.2.1 b hb).elim id (fun h => by cases h))
      refine ⟨if regionB (rs ++ ss) = true then gA else none, if regionB (rs ++ ss) = true then gc else 0, ?_, ?_, hs.fin⟩
      rw [eR, eC]
      cases hb : regionB (rs ++ ss)
      simp [fitR, hb]
      simp [fitR, hb, hl, hl2]
      rw [eR]
      cases hb : regionB (rs ++ ss)
      simpa [fitR, hb] using OwnG.nil none
      simpa [fitR, hb, hl, hl2] using ho
end Go.Proofs.Ytnalgllmdpcjcaa
