/- A region made tidy: both sides. -/
import Derived.Test.YtbdlbemlgghgbaaOrder
namespace Go.Proofs.Ytbdlbemlgghgbaa
open Go Go.RowKit
set_option linter.unusedVariables false
set_option linter.unusedSimpArgs false
set_option maxRecDepth 100000
set_option maxHeartbeats 4000000
set_option linter.unusedVariables false
set_option linter.unusedSimpArgs false

/-- The first k rings made simple, without the empty ones. -/
def tidTo (rs : List Ring_) (k : Nat) : List Ring_ := ((rs.take k).map simple).filter fun r => decide (0 < r.length)
theorem tidTo_yes {rs : List Ring_} {k : Nat} (hk : k < rs.length) (h : 0 < (simple (rg rs k)).length) : tidTo rs (k + 1) = tidTo rs k ++ [simple (rg rs k)] := by
  unfold tidTo
  rw [take_step hk, List.map_append, List.filter_append]
  simp [h]
theorem tidTo_no {rs : List Ring_} {k : Nat} (hk : k < rs.length) (h : ¬ 0 < (simple (rg rs k)).length) : tidTo rs (k + 1) = tidTo rs k := by
  unfold tidTo
  rw [take_step hk, List.map_append, List.filter_append]
  have : (simple (rg rs k)).length = 0 := by omega
  simp [List.eq_nil_of_length_eq_zero this]
theorem tidTo_len (rs : List Ring_) (k : Nat) : (tidTo rs k).length ≤ rs.length := by
  unfold tidTo
  refine Nat.le_trans (List.length_filter_le _ _) ?_
  rw [List.length_map, List.length_take]
  omega
theorem tidTo_mem {rs : List Ring_} {k : Nat} {r : Ring_} (h : r ∈ tidTo rs k) : 0 < r.length ∧ ∃ q ∈ rs, simple q = r := by
  unfold tidTo at h
  rw [List.mem_filter] at h
  obtain ⟨q, hq, e⟩ := List.mem_map.1 h.1
  exact ⟨by simpa using h.2, q, List.mem_of_mem_take hq, e⟩
theorem reg_ring {rs : List Ring_} (hr : regionB rs = true) {q : Ring_} (hq : q ∈ rs) : ringB q = true := by
  obtain ⟨i, hi, e⟩ := List.getElem_of_mem hq
  have := regRing hr hi
  rwa [← at_r hi, e] at this
theorem tidTo_ok {rs : List Ring_} (hr : regionB rs = true) (k : Nat) : okRs (tidTo rs k) := by
  refine ⟨by have := tidTo_len rs k; have := reg_len hr; omega, fun r h => ?_⟩
  obtain ⟨h0, q, hq, e⟩ := tidTo_mem h
  have := simple_ok (okPts.of (reg_ring hr hq))
  rw [e] at this
  exact ⟨h0, by have := this.1; omega, fun p hp => (this.2 p hp).wide⟩
theorem tidTo_small {rs : List Ring_} (hr : regionB rs = true) {k : Nat} {r : Ring_} (h : r ∈ tidTo rs k) : r.length ≤ 401 := by
  obtain ⟨h0, q, hq, e⟩ := tidTo_mem h
  have := simple_ok (okPts.of (reg_ring hr hq))
  rw [e] at this
  exact this.1
def tidR (rs : List Ring_) : List Ring_ := if regionB rs = true then ordR (tidTo rs rs.length) else []
def tidC (rs : List Ring_) : Int := if regionB rs = true then 0 else 1
theorem RingsC.rings {w : World} {A : Option Addr} {n : Nat} {rs : List Ring_} (h : RingsC w A n rs) (hs : ∀ r ∈ rs, r.length ≤ 1048577) : Rings w A n rs := ⟨h.1, fun hn => by
  have hl := h.1
  obtain ⟨b, o, hA, hb, hc⟩ := h.2 hn
  refine ⟨b, o, hA, hb, fun k hk => ?_⟩
  obtain ⟨Ak, ck, h1, h2, h3⟩ := hc k hk
  have := hs rs[k] (List.getElem_mem (by omega))
  rw [at_r (by omega)] at this
  exact ⟨Ak, ck, h1, h2, by omega⟩⟩
theorem l15Tidy_any (bb oo : Nat) (A : Option Addr) (n c : Nat) (rs : List Ring_) (w : World) (hcell0 : w.cell? ⟨bb, oo, none⟩ = some (.slice A n c)) (hbb : bb < w.heap.size) (h : Rings w A n rs) (hr : regionB rs = true) :
    Calls Try.prog 26 #[.pointer (some ⟨bb, oo, none⟩)] w fun e w' => ∃ A' c', e = .returned (regV A' (tidR rs).length c') ∧ OwnG w.heap.size w'.heap.size w' A' (tidR rs).length (tidR rs) ∧ Over w w' := by
  have hl := h.1
  have hn40 := reg_len hr
  have eR : tidR rs = ordR (tidTo rs rs.length) := if_pos hr
  refine walk_from (m := 35) (Try.func26) rfl rfl (Nat.le_of_ble_eq_true rfl) ?_
  refine at_seq ?_
  refine at_region ?_
  refine at_op rfl ?_
  refine op_alloc rfl tyz_impl_Region rfl (by decide) (fun b1 => ?_)
  refine at_rsE (by simp only [List.nil_append, List.cons_append, List.set_cons_zero, List.set_cons_succ, Value.cells, List.toList_toArray]; rfl) ?_
  refine at_end ?_
  refine at_seq ?_
  refine at_region ?_
  refine at_op rfl ?_
  refine op_buildSlice rfl rfl (bsl_sl_impl_Ring_0) rfl (by decide) (fun b2 => ?_)
  refine at_rowN 1 1 rfl rfl ?_
  refine at_rsE (by simp only [List.nil_append, List.cons_append, List.set_cons_zero, List.set_cons_succ, Value.cells, List.toList_toArray]; rfl) ?_
  refine at_q rfl rfl (by decide) (qt_assign rfl rfl) ?_
  refine at_end ?_
  refine at_many0 ?_
  refine at_rsE (by simp only [List.nil_append, List.cons_append, List.set_cons_zero, List.set_cons_succ, List.eraseIdx_cons_zero, List.eraseIdx_cons_succ, Value.cells, List.toList_toArray]; rfl) ?_
  refine at_seq ?_
  refine at_seq ?_
  refine at_region ?_
  refine at_q rfl rfl (by decide) (qt_assign rfl rfl) ?_
  refine at_end ?_
  refine at_block ?_
  refine at_loopc (X := Nat × (Option Addr × Nat) × List Pc) (fun x => x.1 ≤ n ∧ x.2.2.map (·.xs) = tidTo rs x.1 ∧ ∀ e ∈ x.2.2, e.xs.length ≤ e.c) (fun x => n - x.1) (fun x => [(3, .slice x.2.1.1 x.2.2.length x.2.1.2), (4, .int .i64 (x.1 : Int))]) (C := [(0, _), (2, _)]) ⟨rfl, rfl, trivial⟩ (fun x => [.cel b1 38 [.slice none 0 0], rowR (Bs.N ⟨w, []⟩) 88 1 x.2.2.length (x.2.2.map Pc.val) x.2.1, pcsR x.2.2]) (0, (some ⟨b2, 0, none⟩, 0), []) (⟨Nat.zero_le _, rfl, fun e he => by cases he⟩) ⟨rfl, rfl, rfl, rfl, trivial⟩ (fun _ h => h) ?_
  intro ⟨k, ⟨rA, rc⟩, l⟩ hx L hL1
  refine at_envE (by simp only [List.nil_append, List.cons_append]; rfl) ?_
  refine at_rsE (by first | (dsimp only; done) | (dsimp only; rfl) | rfl) ?_
  obtain ⟨hk, hmp, hcp⟩ : k ≤ n ∧ l.map (·.xs) = tidTo rs k ∧ ∀ e ∈ l, e.xs.length ≤ e.c := hx
  have hlk : l.length = (tidTo rs k).length := (by have := congrArg List.length hmp; rwa [List.length_map] at this)
  have hlen := tidTo_len rs k
  refine at_seq ?_
  refine at_seq ?_
  refine at_region ?_
  refine at_q rfl rfl (by decide) (qt_move rfl rfl) ?_
  refine at_q rfl rfl (by decide) (qt_move rfl rfl) ?_
  refine at_q rfl rfl (by decide) (qt_nilCheck rfl rfl) ?_
  refine at_q rfl rfl (by decide) (qt_fieldAddr rfl rfl tyf_impl_Region_0) ?_
  refine at_q rfl rfl (by decide) (qt_load1 rfl rfl ty1_sl_impl_Ring (rdOld0 hcell0 hbb)) ?_
  refine at_q rfl rfl (by decide) (qt_len rfl rfl tyl_sl_impl_Ring) ?_
  refine at_q rfl rfl (by decide) (qt_lss rfl rfl rfl) ?_
  refine at_end ?_
  refine at_cond rfl (fun c1 => ?_) (fun c1 => ?_)
  · try simp only [decide_eq_true_eq, decide_eq_false_iff_not, beq_iff_eq, beq_eq_false_iff_ne, Bool.not_eq_true', Bool.not_eq_false', Bool.not_true, Bool.not_false, Int.not_lt, Int.not_le, ne_eq, Nat.not_lt, Nat.not_le] at c1
    have hlt : k < n := (by omega)
    obtain ⟨eb, eo, Ak, ck, rfl, hbB, hcell, hpts, hmax⟩ := h.at_ hlt
    have hpos := pos_of_ring (regRing hr (show k < rs.length by omega))
    have hsok := simple_ok (okPts.of (regRing hr (show k < rs.length by omega)))
    have hs401 := hsok.1
    refine at_skip ?_
    refine norm_then ?_
    refine at_seq ?_
    refine at_block ?_
    refine at_seq ?_
    refine at_region ?_
    refine at_q rfl rfl (by decide) (qt_move rfl rfl) ?_
    refine at_q rfl rfl (by decide) (qt_nilCheck rfl rfl) ?_
    refine at_q rfl rfl (by decide) (qt_fieldAddr rfl rfl tyf_impl_Region_0) ?_
    refine at_q rfl rfl (by decide) (qt_load1 rfl rfl ty1_sl_impl_Ring (rdOld0 hcell0 hbb)) ?_
    refine at_q rfl rfl (by decide) (qt_move rfl rfl) ?_
    refine at_q rfl rfl (by decide) (qt_index rfl rfl rfl tyl_sl_impl_Ring (by omega)) ?_
    refine at_q rfl rfl (by decide) (qt_fieldAddr rfl rfl tyf_impl_Ring_0) ?_
    refine at_q rfl rfl (by decide) (qt_load1 rfl rfl ty1_sl_impl_Pt (rdOldF hcell hbB)) ?_
    refine at_op rfl ?_
    refine op_call ok_spec_l15Simple (v := fun x => .slice x.1 _ x.2) (r := fun x => rowR 0 24 2 _ _ x) (H := fun _ => True) rfl rfl rfl (by decide) (fun w1 hs => newRow' (l15Simple_any Ak _ ck (rg rs k) w1 (hpts.over hs.fin) (okPts.of (regRing hr (by omega))) hpos.1)) ?_
    rintro ⟨tA, tc⟩ -
    refine at_rsE (by simp only [List.nil_append, List.cons_append, List.set_cons_zero, List.set_cons_succ, Value.cells, List.toList_toArray]; rfl) ?_
    refine at_q rfl rfl (by decide) (qt_assign rfl rfl) ?_
    refine at_end ?_
    refine at_seq ?_
    refine at_region ?_
    refine at_q rfl rfl (by decide) (qt_move rfl rfl) ?_
    refine at_q rfl rfl (by decide) (qt_len rfl rfl tyl_sl_impl_Pt) ?_
    refine at_q rfl rfl (by decide) (qt_gtr rfl rfl rfl) ?_
    refine at_end ?_
    refine at_cond rfl (fun c2 => ?_) (fun c2 => ?_)
    · try simp only [decide_eq_true_eq, decide_eq_false_iff_not, beq_iff_eq, beq_eq_false_iff_ne, Bool.not_eq_true', Bool.not_eq_false', Bool.not_true, Bool.not_false, Int.not_lt, Int.not_le, ne_eq, Nat.not_lt, Nat.not_le] at c2
      have hpl : 0 < (simple (rg rs k)).length := (by omega)
      refine at_fact (fun w hs => rowCap (hs.all 3 _ rfl).1) ?_
      intro hcap
      refine at_region ?_
      refine at_q rfl rfl (by decide) (qt_move rfl rfl) ?_
      refine at_q rfl rfl (by decide) (qt_move rfl rfl) ?_
      refine at_q rfl rfl (by decide) (qt_build rfl rfl (bld_impl_Ring_0 rfl)) ?_
      refine at_op rfl ?_
      refine op_buildSlice rfl rfl (bsl_sl_impl_Ring_1_0 rfl) rfl (by decide) (fun b3 => ?_)
      refine at_rsE (by simp only [List.nil_append, List.cons_append, List.set_cons_zero, List.set_cons_succ, Value.cells, List.toList_toArray]; rfl) ?_
      refine at_op rfl ?_
      refine op_appendR (k := 1) rfl tyl_sl_impl_Ring tyz_impl_Ring (by decide) rfl (by decide) rfl rfl rfl (fun w' hs => src_cel hs (k := 4) rfl rfl) (by simp [Value.oneCell']) (by unfold maxLen; omega) (by omega) (Nat.le_refl _) (fun r1 => ?_)
      refine at_rsE (by simp only [List.nil_append, List.cons_append, List.set_cons_zero, List.set_cons_succ, Value.cells, List.toList_toArray]; rfl) ?_
      refine at_q rfl rfl (by decide) (qt_assign rfl rfl) ?_
      refine at_nil ?_
      refine at_pc 3 rfl rfl (fun clo chi => ?_)
      refine at_rsE (by simp only [List.nil_append, List.cons_append, List.set_cons_zero, List.set_cons_succ, List.eraseIdx_cons_zero, List.eraseIdx_cons_succ, Value.cells, List.toList_toArray]; rfl) ?_
      refine at_push 2 3 rfl rfl (by decide) rfl ?_
      refine at_rsE (by simp only [List.nil_append, List.cons_append, List.set_cons_zero, List.set_cons_succ, List.eraseIdx_cons_zero, List.eraseIdx_cons_succ, Value.cells, List.toList_toArray]; rfl) ?_
      refine norm_block ?_
      refine norm_then ?_
      refine at_region ?_
      refine at_q rfl rfl (by decide) (qt_move rfl rfl) ?_
      refine at_q rfl rfl (by decide) (qt_add rfl rfl rfl (by omega) (by omega)) ?_
      refine at_q rfl rfl (by decide) (qt_assign rfl rfl) ?_
      refine at_end ?_
      exact at_againc hL1 ((k + 1, r1, l ++ [⟨simple (rg rs k), tA, tc, clo, chi⟩])) (⟨show k + 1 ≤ n by omega, by rw [List.map_append, hmp, tidTo_yes (by omega) hpl]; rfl, fun e he => (List.mem_append.1 he).elim (hcp e) (fun he => by rw [List.mem_singleton.1 he]; exact hcap)⟩) (by simp only; omega) ⟨(by rw [List.length_append]; rfl), vi (by omega), rfl, rfl, trivial⟩ (fun _ h => h.upto ⟨rfl, by rw [List.map_append, List.length_append]; rfl, (pcsR_push _ _).symm, trivial⟩)
    · try simp only [decide_eq_true_eq, decide_eq_false_iff_not, beq_iff_eq, beq_eq_false_iff_ne, Bool.not_eq_true', Bool.not_eq_false', Bool.not_true, Bool.not_false, Int.not_lt, Int.not_le, ne_eq, Nat.not_lt, Nat.not_le] at c2
      refine at_skip ?_
      refine norm_block ?_
      refine norm_then ?_
      refine at_region ?_
      refine at_q rfl rfl (by decide) (qt_move rfl rfl) ?_
      refine at_q rfl rfl (by decide) (qt_add rfl rfl rfl (by omega) (by omega)) ?_
      refine at_q rfl rfl (by decide) (qt_assign rfl rfl) ?_
      refine at_end ?_
      exact at_againc hL1 ((k + 1, (rA, rc), l)) (⟨show k + 1 ≤ n by omega, by rw [hmp, tidTo_no (by omega) (by omega)], hcp⟩) (by simp only; omega) ⟨rfl, vi (by omega), rfl, rfl, trivial⟩ (fun _ h => h.upto ⟨rfl, rfl, rfl, trivial⟩)
  · try simp only [decide_eq_true_eq, decide_eq_false_iff_not, beq_iff_eq, beq_eq_false_iff_ne, Bool.not_eq_true', Bool.not_eq_false', Bool.not_true, Bool.not_false, Int.not_lt, Int.not_le, ne_eq, Nat.not_lt, Nat.not_le] at c1
    have hkn : k = rs.length := (by omega)
    subst hkn
    rw [hlk]
    refine at_exit ?_
    refine pass_then (fun h => by cases h) ?_
    refine pass_then (fun h => by cases h) ?_
    refine pass_hit ?_
    refine norm_then ?_
    refine at_seq ?_
    refine at_region ?_
    refine at_q rfl rfl (by decide) (qt_move rfl rfl) ?_
    refine at_op rfl ?_
    refine op_call ok_spec_l14Order (X := (Option Addr × Nat) × Nat × Nat) (v := fun x => regV x.1.1 _ x.1.2) (r := fun x => gegR _ (ordR (tidTo rs rs.length)) x.2.1 x.2.2 x.1.1) (H := fun _ => True) rfl rfl rfl (by decide) (fun w1 hs => gegNew (l14Order_any rA _ rc (tidTo rs rs.length) w1 (hmp ▸ (pcs_ringsC hs (kr := 1) (kp := 2) rfl rfl hlk hcp).rings (fun r hr' => ((tidTo_ok hr _).2 r (hmp ▸ hr')).2.1)) (tidTo_ok hr _))) ?_
    rintro ⟨⟨gA, gc⟩, glo, ghi⟩ -
    refine at_rsE (by simp only [List.nil_append, List.cons_append, List.set_cons_zero, List.set_cons_succ, Value.cells, List.toList_toArray]; rfl) ?_
    refine at_op rfl ?_
    refine op_storeAll' (k := 0) rfl rfl rfl rfl (rfl) (by rfl) tyz_impl_Region.szx rfl rfl rfl ?_
    refine at_rsE (by simp only [List.nil_append, List.cons_append, List.set_cons_zero, List.set_cons_succ, Value.cells, List.toList_toArray]; rfl) ?_
    refine at_end ?_
    refine at_retc ?_
    refine at_ret1 rfl (rvCelS (k := 0) rfl tys_impl_Region rfl rfl) ?_
    intro w' hs
    have hg := hs.all 3 _ rfl
    have ho := gegTop hg.1 (fun b hb => (hg.2.1 b hb).elim id (fun h => by cases h))
    have eL : (tidR rs).length = (tidTo rs rs.length).length := (by rw [eR, ordR_len])
    exact ⟨gA, gc, by rw [eL], by rw [eL, eR]; exact ho, hs.fin⟩
theorem tidyRegion_any (A : Option Addr) (n c : Nat) (rs : List Ring_) (w : World) (h : Rings w A n rs) (hr : regionB rs = true) :
    Calls Try.prog 29 #[regV A n c] w fun e w' => ∃ A' c', e = .returned (regV A' (tidR rs).length c') ∧ OwnG w.heap.size w'.heap.size w' A' (tidR rs).length (tidR rs) ∧ Over w w' := by
  have hl := h.1
  have hn40 := reg_len hr
  have eR : tidR rs = ordR (tidTo rs rs.length) := if_pos hr
  refine walk_from (m := 30) (Try.func29) rfl rfl (Nat.le_of_ble_eq_true rfl) ?_
  refine at_seq ?_
  refine at_region ?_
  refine at_op rfl ?_
  refine op_box rfl rfl (rfl) rfl (by decide) (fun b1 => ?_)
  refine at_rsE (by simp only [List.nil_append, List.cons_append, List.set_cons_zero, List.set_cons_succ, Value.cells, List.toList_toArray]; rfl) ?_
  refine at_op rfl ?_
  refine op_alloc rfl tyz_impl_Region rfl (by decide) (fun b2 => ?_)
  refine at_rsE (by simp only [List.nil_append, List.cons_append, List.set_cons_zero, List.set_cons_succ, Value.cells, List.toList_toArray]; rfl) ?_
  refine at_end ?_
  refine at_seq ?_
  refine at_region ?_
  refine at_op rfl ?_
  refine op_alloc rfl tyz_impl_Region rfl (by decide) (fun b3 => ?_)
  refine at_rsE (by simp only [List.nil_append, List.cons_append, List.set_cons_zero, List.set_cons_succ, Value.cells, List.toList_toArray]; rfl) ?_
  refine at_end ?_
  refine at_row0 (T := 88) (s := 1) ?_
  refine at_rsE (by simp only [List.nil_append, List.cons_append, List.set_cons_zero, List.set_cons_succ, List.eraseIdx_cons_zero, List.eraseIdx_cons_succ, Value.cells, List.toList_toArray]; rfl) ?_
  refine at_many0 ?_
  refine at_rsE (by simp only [List.nil_append, List.cons_append, List.set_cons_zero, List.set_cons_succ, List.eraseIdx_cons_zero, List.eraseIdx_cons_succ, Value.cells, List.toList_toArray]; rfl) ?_
  refine at_seq ?_
  refine at_seq ?_
  refine at_region ?_
  refine at_q rfl rfl (by decide) (qt_fieldAddr rfl rfl tyf_impl_Region_0) ?_
  refine at_q rfl rfl (by decide) (qt_load1 rfl rfl ty1_sl_impl_Ring (rd1 (k := 0) rfl rfl)) ?_
  refine at_q rfl rfl (by decide) (qt_len rfl rfl tyl_sl_impl_Ring) ?_
  refine at_q rfl rfl (by decide) (qt_move rfl rfl) ?_
  refine at_end ?_
  refine at_block ?_
  refine at_loopc (X := Nat × (Option Addr × Nat) × List Pc) (fun x => x.1 ≤ n ∧ x.2.2.map (·.xs) = tidTo rs x.1 ∧ ∀ e ∈ x.2.2, e.xs.length ≤ e.c) (fun x => n - x.1) (fun x => [(10, .int .i64 (x.1 : Int))]) (C := [(2, _), (3, _), (8, _), (9, _)]) ⟨rfl, rfl, rfl, rfl, trivial⟩ (fun x => [.cel b1 38 [.slice A n c], .cel b2 38 [.slice none 0 0], .cel b3 38 [.slice x.2.1.1 x.2.2.length x.2.1.2], rowR (Bs.N ⟨w, []⟩) 88 1 x.2.2.length (x.2.2.map Pc.val) x.2.1, pcsR x.2.2]) (0, (none, 0), []) (⟨Nat.zero_le _, rfl, fun e he => by cases he⟩) ⟨rfl, rfl, rfl, rfl, rfl, trivial⟩ (fun _ h => h) ?_
  intro ⟨k, ⟨rA, rc⟩, l⟩ hx L hL1
  refine at_envE (by simp only [List.nil_append, List.cons_append]; rfl) ?_
  refine at_rsE (by first | (dsimp only; done) | (dsimp only; rfl) | rfl) ?_
  obtain ⟨hk, hmp, hcp⟩ : k ≤ n ∧ l.map (·.xs) = tidTo rs k ∧ ∀ e ∈ l, e.xs.length ≤ e.c := hx
  have hlk : l.length = (tidTo rs k).length := (by have := congrArg List.length hmp; rwa [List.length_map] at this)
  have hlen := tidTo_len rs k
  refine at_seq ?_
  refine at_region ?_
  refine at_q rfl rfl (by decide) (qt_lss rfl rfl rfl) ?_
  refine at_end ?_
  refine at_seq ?_
  refine at_cond rfl (fun c1 => ?_) (fun c1 => ?_)
  · try simp only [decide_eq_true_eq, decide_eq_false_iff_not, beq_iff_eq, beq_eq_false_iff_ne, Bool.not_eq_true', Bool.not_eq_false', Bool.not_true, Bool.not_false, Int.not_lt, Int.not_le, ne_eq, Nat.not_lt, Nat.not_le] at c1
    have hlt : k < n := (by omega)
    obtain ⟨eb, eo, Ak, ck, rfl, hbB, hcell, hpts, hmax⟩ := h.at_ hlt
    have hpos := pos_of_ring (regRing hr (show k < rs.length by omega))
    have hsok := simple_ok (okPts.of (regRing hr (show k < rs.length by omega)))
    have hs401 := hsok.1
    refine at_skip ?_
    refine norm_then ?_
    refine at_seq ?_
    refine at_block ?_
    refine at_seq ?_
    refine at_region ?_
    refine at_q rfl rfl (by decide) (qt_index rfl rfl rfl tyl_sl_impl_Ring (by omega)) ?_
    refine at_q rfl rfl (by decide) (qt_loadS rfl rfl tys_impl_Ring rfl (rdOld1 hcell hbB)) ?_
    refine at_op rfl ?_
    refine op_alloc rfl tyz_impl_Ring rfl (by decide) (fun b4 => ?_)
    refine at_rsE (by simp only [List.nil_append, List.cons_append, List.set_cons_zero, List.set_cons_succ, Value.cells, List.toList_toArray]; rfl) ?_
    refine at_op rfl ?_
    refine op_storeAll' (k := 5) rfl rfl rfl rfl (rfl) (by rfl) tyz_impl_Ring.szx rfl rfl rfl ?_
    refine at_rsE (by simp only [List.nil_append, List.cons_append, List.set_cons_zero, List.set_cons_succ, Value.cells, List.toList_toArray]; rfl) ?_
    refine at_end ?_
    refine at_seq ?_
    refine at_region ?_
    refine at_q rfl rfl (by decide) (qt_fieldAddr rfl rfl tyf_impl_Ring_0) ?_
    refine at_q rfl rfl (by decide) (qt_load1 rfl rfl ty1_sl_impl_Pt (rd1 (k := 5) rfl rfl)) ?_
    refine at_op rfl ?_
    refine op_call ok_impl_simplifyRing (v := fun x => .slice x.1 _ x.2) (r := fun x => rowR 0 24 2 _ _ x) (H := fun _ => True) rfl rfl rfl (by decide) (fun w1 hs => newRow' (simplifyRing_any Ak _ ck (rg rs k) w1 (hpts.over hs.fin) (okPts.of (regRing hr (by omega))) hpos.1)) ?_
    rintro ⟨tA, tc⟩ -
    refine at_rsE (by simp only [List.nil_append, List.cons_append, List.set_cons_zero, List.set_cons_succ, Value.cells, List.toList_toArray]; rfl) ?_
    refine at_q rfl rfl (by decide) (qt_assign rfl rfl) ?_
    refine at_end ?_
    refine at_seq ?_
    refine at_region ?_
    refine at_q rfl rfl (by decide) (qt_move rfl rfl) ?_
    refine at_q rfl rfl (by decide) (qt_len rfl rfl tyl_sl_impl_Pt) ?_
    refine at_q rfl rfl (by decide) (qt_gtr rfl rfl rfl) ?_
    refine at_end ?_
    refine at_cond rfl (fun c2 => ?_) (fun c2 => ?_)
    · try simp only [decide_eq_true_eq, decide_eq_false_iff_not, beq_iff_eq, beq_eq_false_iff_ne, Bool.not_eq_true', Bool.not_eq_false', Bool.not_true, Bool.not_false, Int.not_lt, Int.not_le, ne_eq, Nat.not_lt, Nat.not_le] at c2
      have hpl : 0 < (simple (rg rs k)).length := (by omega)
      refine at_fact (fun w hs => rowCap (hs.all 6 _ rfl).1) ?_
      intro hcap
      refine at_region ?_
      refine at_q rfl rfl (by decide) (qt_fieldAddr rfl rfl tyf_impl_Region_0) ?_
      refine at_q rfl rfl (by decide) (qt_load1 rfl rfl ty1_sl_impl_Ring (rd1 (k := 2) rfl rfl)) ?_
      refine at_q rfl rfl (by decide) (qt_move rfl rfl) ?_
      refine at_q rfl rfl (by decide) (qt_build rfl rfl (bld_impl_Ring_0 rfl)) ?_
      refine at_op rfl ?_
      refine op_buildSlice rfl rfl (bsl_sl_impl_Ring_1_0 rfl) rfl (by decide) (fun b5 => ?_)
      refine at_rsE (by simp only [List.nil_append, List.cons_append, List.set_cons_zero, List.set_cons_succ, Value.cells, List.toList_toArray]; rfl) ?_
      refine at_op rfl ?_
      refine op_appendR (k := 3) rfl tyl_sl_impl_Ring tyz_impl_Ring (by decide) rfl (by decide) rfl rfl rfl (fun w' hs => src_cel hs (k := 7) rfl rfl) (by simp [Value.oneCell']) (by unfold maxLen; omega) (by omega) (Nat.le_refl _) (fun r1 => ?_)
      refine at_rsE (by simp only [List.nil_append, List.cons_append, List.set_cons_zero, List.set_cons_succ, Value.cells, List.toList_toArray]; rfl) ?_
      refine at_q rfl rfl (by decide) (qt_fieldAddr rfl rfl tyf_impl_Region_0) ?_
      refine at_op rfl ?_
      refine op_storeAll' (k := 2) rfl rfl rfl rfl (rfl) (by rfl) tyz_sl_impl_Ring.szx rfl rfl rfl ?_
      refine at_rsE (by simp only [List.nil_append, List.cons_append, List.set_cons_zero, List.set_cons_succ, Value.cells, List.toList_toArray]; rfl) ?_
      refine at_nil ?_
      refine at_pc 6 rfl rfl (fun clo chi => ?_)
      refine at_rsE (by simp only [List.nil_append, List.cons_append, List.set_cons_zero, List.set_cons_succ, List.eraseIdx_cons_zero, List.eraseIdx_cons_succ, Value.cells, List.toList_toArray]; rfl) ?_
      refine at_push 4 6 rfl rfl (by decide) rfl ?_
      refine at_rsE (by simp only [List.nil_append, List.cons_append, List.set_cons_zero, List.set_cons_succ, List.eraseIdx_cons_zero, List.eraseIdx_cons_succ, Value.cells, List.toList_toArray]; rfl) ?_
      refine norm_block ?_
      refine norm_then ?_
      refine at_region ?_
      refine at_q rfl rfl (by decide) (qt_add rfl rfl rfl (by omega) (by omega)) ?_
      refine at_q rfl rfl (by decide) (qt_move rfl rfl) ?_
      refine at_end ?_
      exact at_againc hL1 ((k + 1, r1, l ++ [⟨simple (rg rs k), tA, tc, clo, chi⟩])) (⟨show k + 1 ≤ n by omega, by rw [List.map_append, hmp, tidTo_yes (by omega) hpl]; rfl, fun e he => (List.mem_append.1 he).elim (hcp e) (fun he => by rw [List.mem_singleton.1 he]; exact hcap)⟩) (by simp only; omega) ⟨vi (by omega), rfl, rfl, rfl, rfl, trivial⟩ (fun _ h => h.upto ⟨rfl, rfl, by rw [List.length_append]; rfl, by rw [List.map_append, List.length_append]; rfl, (pcsR_push _ _).symm, trivial⟩)
    · try simp only [decide_eq_true_eq, decide_eq_false_iff_not, beq_iff_eq, beq_eq_false_iff_ne, Bool.not_eq_true', Bool.not_eq_false', Bool.not_true, Bool.not_false, Int.not_lt, Int.not_le, ne_eq, Nat.not_lt, Nat.not_le] at c2
      refine at_skip ?_
      refine norm_block ?_
      refine norm_then ?_
      refine at_region ?_
      refine at_q rfl rfl (by decide) (qt_add rfl rfl rfl (by omega) (by omega)) ?_
      refine at_q rfl rfl (by decide) (qt_move rfl rfl) ?_
      refine at_end ?_
      exact at_againc hL1 ((k + 1, (rA, rc), l)) (⟨show k + 1 ≤ n by omega, by rw [hmp, tidTo_no (by omega) (by omega)], hcp⟩) (by simp only; omega) ⟨vi (by omega), rfl, rfl, rfl, rfl, trivial⟩ (fun _ h => h.upto ⟨rfl, rfl, rfl, rfl, rfl, trivial⟩)
  · try simp only [decide_eq_true_eq, decide_eq_false_iff_not, beq_iff_eq, beq_eq_false_iff_ne, Bool.not_eq_true', Bool.not_eq_false', Bool.not_true, Bool.not_false, Int.not_lt, Int.not_le, ne_eq, Nat.not_lt, Nat.not_le] at c1
    have hkn : k = rs.length := (by omega)
    subst hkn
    rw [hlk]
    refine at_exit ?_
    refine pass_then (fun h => by cases h) ?_
    refine pass_then (fun h => by cases h) ?_
    refine pass_hit ?_
    refine norm_then ?_
    refine at_seq ?_
    refine at_region ?_
    refine at_q rfl rfl (by decide) (qt_loadS rfl rfl tys_impl_Region rfl (rdAll (k := 2) rfl)) ?_
    refine at_op rfl ?_
    refine op_call ok_impl_orderRings (X := (Option Addr × Nat) × Nat × Nat) (v := fun x => regV x.1.1 _ x.1.2) (r := fun x => gegR _ (ordR (tidTo rs rs.length)) x.2.1 x.2.2 x.1.1) (H := fun _ => True) rfl rfl rfl (by decide) (fun w1 hs => gegNew (orderRings_any rA _ rc (tidTo rs rs.length) w1 (hmp ▸ pcs_ringsC hs (kr := 3) (kp := 4) rfl rfl hlk hcp) (tidTo_ok hr _))) ?_
    rintro ⟨⟨gA, gc⟩, glo, ghi⟩ -
    refine at_rsE (by simp only [List.nil_append, List.cons_append, List.set_cons_zero, List.set_cons_succ, Value.cells, List.toList_toArray]; rfl) ?_
    refine at_op rfl ?_
    refine op_storeAll' (k := 1) rfl rfl rfl rfl (rfl) (by rfl) tyz_impl_Region.szx rfl rfl rfl ?_
    refine at_rsE (by simp only [List.nil_append, List.cons_append, List.set_cons_zero, List.set_cons_succ, Value.cells, List.toList_toArray]; rfl) ?_
    refine at_end ?_
    refine at_retc ?_
    refine at_ret1 rfl (rvCelS (k := 1) rfl tys_impl_Region rfl rfl) ?_
    intro w' hs
    have hg := hs.all 5 _ rfl
    have ho := gegTop hg.1 (fun b hb => (hg.2.1 b hb).elim id (fun h => by cases h))
    have eL : (tidR rs).length = (tidTo rs rs.length).length := (by rw [eR, ordR_len])
    exact ⟨gA, gc, by rw [eL], by rw [eL, eR]; exact ho, hs.fin⟩
theorem TidyRegion_any (A : Option Addr) (n c : Nat) (rs : List Ring_) (w : World) (h : Rings w A n rs) (ht : (total rs : Int) ≤ 1048577) :
    Calls Try.prog 12 #[regV A n c] w fun e w' => ∃ A' c', e = .returned (.tuple #[regV A' (tidR rs).length c', .int .i64 (tidC rs)]) ∧ OwnG w.heap.size w'.heap.size w' A' (tidR rs).length (tidR rs) ∧ Over w w' := by
  have hl := h.1
  refine walk_from (m := 10) (Try.func12) rfl rfl (Nat.le_of_ble_eq_true rfl) ?_
  refine at_seq ?_
  refine at_region ?_
  refine at_op rfl ?_
  refine op_box rfl rfl (rfl) rfl (by decide) (fun b1 => ?_)
  refine at_rsE (by simp only [List.nil_append, List.cons_append, List.set_cons_zero, List.set_cons_succ, Value.cells, List.toList_toArray]; rfl) ?_
  refine at_op rfl ?_
  refine op_alloc rfl tyz_impl_Region rfl (by decide) (fun b2 => ?_)
  refine at_rsE (by simp only [List.nil_append, List.cons_append, List.set_cons_zero, List.set_cons_succ, Value.cells, List.toList_toArray]; rfl) ?_
  refine at_q rfl rfl (by decide) (qt_assign rfl rfl) ?_
  refine at_end ?_
  refine at_seq ?_
  refine at_seq ?_
  refine at_region ?_
  refine at_q rfl rfl (by decide) (qt_loadS rfl rfl tys_impl_Region rfl (rdAll (k := 0) rfl)) ?_
  refine at_q rfl rfl (by decide) (qt_call ok_impl_ValidRegion rfl rfl (fun w1 hs => ValidRegion_any A n c rs w1 (h.over hs.fin) ht)) ?_
  refine at_q rfl rfl (by decide) (qt_not rfl rfl) ?_
  refine at_end ?_
  refine at_cond rfl (fun c1 => ?_) (fun c1 => ?_)
  · try simp only [decide_eq_true_eq, decide_eq_false_iff_not, beq_iff_eq, beq_eq_false_iff_ne, Bool.not_eq_true', Bool.not_eq_false', Bool.not_true, Bool.not_false, Int.not_lt, Int.not_le, ne_eq, Nat.not_lt, Nat.not_le] at c1
    refine at_seq ?_
    refine at_region ?_
    refine at_q rfl rfl (by decide) (qt_build rfl rfl (bld_impl_Region_)) ?_
    refine at_op rfl ?_
    refine op_storeAll' (k := 1) rfl rfl rfl rfl (rfl) (by rfl) tyz_impl_Region.szx rfl rfl rfl ?_
    refine at_rsE (by simp only [List.nil_append, List.cons_append, List.set_cons_zero, List.set_cons_succ, Value.cells, List.toList_toArray]; rfl) ?_
    refine at_q rfl rfl (by decide) (qt_assign rfl rfl) ?_
    refine at_end ?_
    refine at_retc ?_
    refine then_ret ?_
    refine at_ret2 rfl (rvCelS (k := 1) rfl tys_impl_Region rfl rfl) (.tmp rfl) ?_
    intro w' hs
    exact ⟨none, 0, by simp [tidR, tidC, c1], by simp only [tidR, c1]; exact OwnG.nil none, hs.fin⟩
  · try simp only [decide_eq_true_eq, decide_eq_false_iff_not, beq_iff_eq, beq_eq_false_iff_ne, Bool.not_eq_true', Bool.not_eq_false', Bool.not_true, Bool.not_false, Int.not_lt, Int.not_le, ne_eq, Nat.not_lt, Nat.not_le] at c1
    have hr : regionB rs = true := by simpa using c1
    have eC : tidC rs = 0 := if_pos hr
    refine at_skip ?_
    refine norm_then ?_
    refine at_seq ?_
    refine at_region ?_
    refine at_q rfl rfl (by decide) (qt_loadS rfl rfl tys_impl_Region rfl (rdAll (k := 0) rfl)) ?_
    refine at_op rfl ?_
    refine op_call ok_impl_tidyRegion (X := (Option Addr × Nat) × Nat × Nat) (v := fun x => regV x.1.1 _ x.1.2) (r := fun x => gegR _ (tidR rs) x.2.1 x.2.2 x.1.1) (H := fun _ => True) rfl rfl rfl (by decide) (fun w1 hs => gegNew (tidyRegion_any A n c rs w1 (h.over hs.fin) hr)) ?_
    rintro ⟨⟨gA, gc⟩, glo, ghi⟩ -
    refine at_rsE (by simp only [List.nil_append, List.cons_append, List.set_cons_zero, List.set_cons_succ, Value.cells, List.toList_toArray]; rfl) ?_
    refine at_op rfl ?_
    refine op_storeAll' (k := 1) rfl rfl rfl rfl (rfl) (by rfl) tyz_impl_Region.szx rfl rfl rfl ?_
    refine at_rsE (by simp only [List.nil_append, List.cons_append, List.set_cons_zero, List.set_cons_succ, Value.cells, List.toList_toArray]; rfl) ?_
    refine at_q rfl rfl (by decide) (qt_assign rfl rfl) ?_
    refine at_end ?_
    refine at_retc ?_
    refine at_ret2 rfl (rvCelS (k := 1) rfl tys_impl_Region rfl rfl) (.tmp rfl) ?_
    intro w' hs
    have hg := hs.all 2 _ rfl
    have ho := gegTop hg.1 (fun b hb => (hg.2.1 b hb).elim id (fun h => by cases h))
    exact ⟨gA, gc, by rw [eC], ho, hs.fin⟩
theorem specTidyRegion_any (A : Option Addr) (n c : Nat) (rs : List Ring_) (w : World) (h : Rings w A n rs) (ht : (total rs : Int) ≤ 1048577) :
    Calls Try.prog 10 #[regV A n c] w fun e w' => ∃ A' c', e = .returned (.tuple #[regV A' (tidR rs).length c', .int .i64 (tidC rs)]) ∧ OwnG w.heap.size w'.heap.size w' A' (tidR rs).length (tidR rs) ∧ Over w w' := by
  have hl := h.1
  refine walk_from (m := 8) (Try.func10) rfl rfl (Nat.le_of_ble_eq_true rfl) ?_
  refine at_seq ?_
  refine at_region ?_
  refine at_op rfl ?_
  refine op_box rfl rfl (rfl) rfl (by decide) (fun b1 => ?_)
  refine at_rsE (by simp only [List.nil_append, List.cons_append, List.set_cons_zero, List.set_cons_succ, Value.cells, List.toList_toArray]; rfl) ?_
  refine at_op rfl ?_
  refine op_alloc rfl tyz_impl_Region rfl (by decide) (fun b2 => ?_)
  refine at_rsE (by simp only [List.nil_append, List.cons_append, List.set_cons_zero, List.set_cons_succ, Value.cells, List.toList_toArray]; rfl) ?_
  refine at_q rfl rfl (by decide) (qt_assign rfl rfl) ?_
  refine at_end ?_
  refine at_seq ?_
  refine at_seq ?_
  refine at_region ?_
  refine at_q rfl rfl (by decide) (qt_call ok_spec_l13Ok rfl rfl (fun w1 hs => l13Ok_any _ _ A n c rs w1 (rd1 (k := 0) rfl rfl w1 hs) (lt_of_some (hs.cel (k := 0) rfl)) (h.over hs.fin) ht)) ?_
  refine at_q rfl rfl (by decide) (qt_not rfl rfl) ?_
  refine at_end ?_
  refine at_cond rfl (fun c1 => ?_) (fun c1 => ?_)
  · try simp only [decide_eq_true_eq, decide_eq_false_iff_not, beq_iff_eq, beq_eq_false_iff_ne, Bool.not_eq_true', Bool.not_eq_false', Bool.not_true, Bool.not_false, Int.not_lt, Int.not_le, ne_eq, Nat.not_lt, Nat.not_le] at c1
    refine at_seq ?_
    refine at_region ?_
    refine at_q rfl rfl (by decide) (qt_build rfl rfl (bld_impl_Region_)) ?_
    refine at_op rfl ?_
    refine op_storeAll' (k := 1) rfl rfl rfl rfl (rfl) (by rfl) tyz_impl_Region.szx rfl rfl rfl ?_
    refine at_rsE (by simp only [List.nil_append, List.cons_append, List.set_cons_zero, List.set_cons_succ, Value.cells, List.toList_toArray]; rfl) ?_
    refine at_q rfl rfl (by decide) (qt_assign rfl rfl) ?_
    refine at_end ?_
    refine at_retc ?_
    refine then_ret ?_
    refine at_ret2 rfl (rvCelS (k := 1) rfl tys_impl_Region rfl rfl) (.tmp rfl) ?_
    intro w' hs
    exact ⟨none, 0, by simp [tidR, tidC, c1], by simp only [tidR, c1]; exact OwnG.nil none, hs.fin⟩
  · try simp only [decide_eq_true_eq, decide_eq_false_iff_not, beq_iff_eq, beq_eq_false_iff_ne, Bool.not_eq_true', Bool.not_eq_false', Bool.not_true, Bool.not_false, Int.not_lt, Int.not_le, ne_eq, Nat.not_lt, Nat.not_le] at c1
    have hr : regionB rs = true := by simpa using c1
    have eC : tidC rs = 0 := if_pos hr
    refine at_skip ?_
    refine norm_then ?_
    refine at_seq ?_
    refine at_region ?_
    refine at_op rfl ?_
    refine op_call ok_spec_l15Tidy (X := (Option Addr × Nat) × Nat × Nat) (v := fun x => regV x.1.1 _ x.1.2) (r := fun x => gegR _ (tidR rs) x.2.1 x.2.2 x.1.1) (H := fun _ => True) rfl rfl rfl (by decide) (fun w1 hs => gegNew (l15Tidy_any _ _ A n c rs w1 (rd1 (k := 0) rfl rfl w1 hs) (lt_of_some (hs.cel (k := 0) rfl)) (h.over hs.fin) hr)) ?_
    rintro ⟨⟨gA, gc⟩, glo, ghi⟩ -
    refine at_rsE (by simp only [List.nil_append, List.cons_append, List.set_cons_zero, List.set_cons_succ, Value.cells, List.toList_toArray]; rfl) ?_
    refine at_op rfl ?_
    refine op_storeAll' (k := 1) rfl rfl rfl rfl (rfl) (by rfl) tyz_impl_Region.szx rfl rfl rfl ?_
    refine at_rsE (by simp only [List.nil_append, List.cons_append, List.set_cons_zero, List.set_cons_succ, Value.cells, List.toList_toArray]; rfl) ?_
    refine at_q rfl rfl (by decide) (qt_assign rfl rfl) ?_
    refine at_end ?_
    refine at_retc ?_
    refine at_ret2 rfl (rvCelS (k := 1) rfl tys_impl_Region rfl rfl) (.tmp rfl) ?_
    intro w' hs
    have hg := hs.all 2 _ rfl
    have ho := gegTop hg.1 (fun b hb => (hg.2.1 b hb).elim id (fun h => by cases h))
    exact ⟨gA, gc, by rw [eC], ho, hs.fin⟩
end Go.Proofs.Ytbdlbemlgghgbaa
