/- The laws' copies of regions, as regions of the call's own. -/
import Derived.Test.YtnalgllmdpcjcaaPcs
namespace Go.Proofs.Ytnalgllmdpcjcaa
open Go Go.RowKit
set_option linter.unusedVariables false
set_option linter.unusedSimpArgs false
set_option maxRecDepth 100000
set_option maxHeartbeats 4000000
set_option linter.unusedVariables false

theorem made_nil (n : Nat) : (madeCells #[Value.slice none 0 0] (n * 1)).toList = List.replicate n (Value.slice none 0 0) := by rw [Nat.mul_one, toList_madeCells_one]
theorem hdr_at (l : List Pc) (r : List Value) (j : Nat) (hj : j < l.length) : (l.map Pc.val ++ r).toArray[0 + j]? = some (l[j]).val := by
  rw [Nat.zero_add, List.getElem?_toArray, List.getElem?_append_left (by simpa using hj)]
  simp [hj]
theorem hdr_step (l : List Pc) (e : Pc) {k n : Nat} (hl : l.length = k) (hk : k < n) : (l ++ [e]).map Pc.val ++ List.replicate (n - (k + 1)) (Value.slice none 0 0) = splice (l.map Pc.val ++ List.replicate (n - k) (Value.slice none 0 0)) (0 + k * 1) [e.val] := by
  rw [show n - k = (n - (k + 1)) + 1 by omega, List.replicate_succ, show 0 + k * 1 = (l.map Pc.val).length by simp; omega]
  simp only [splice]
  rw [List.set_append_right _ _ (Nat.le_refl _), Nat.sub_self]
  simp
theorem take_step {rs : List Ring_} {k : Nat} (hk : k < rs.length) : rs.take (k + 1) = rs.take k ++ [rg rs k] := by
  rw [List.take_succ_eq_append_getElem hk, at_r hk]
/-- A region of the call's own, seen with all blocks from the beginning on. -/
theorem gegTop {lo hi n N : Nat} {w : World} {A : Option Addr} {rs : List Ring_} (h : (gegR n rs lo hi A).P w) (hF : ∀ b, (gegR n rs lo hi A).F b → N ≤ b) : OwnG N w.heap.size w A n rs := by
  have hg := gegG h
  refine ⟨hg.1, hg.2.1, fun hn => ?_⟩
  obtain ⟨b, o, T, cs, pl, hA, hd⟩ := hg.2.2 hn
  refine ⟨b, o, T, cs, pl, hA, ⟨hF b ⟨hd.low, hd.high⟩, Nat.lt_of_lt_of_le hd.high h.1, hd.blk, hd.cell, fun k hk => ⟨(hd.pts k hk).1, fun h0 => ?_⟩, hd.off, hd.apart⟩⟩
  obtain ⟨b', o', T', cs', e, h1, h2, hh⟩ := (hd.pts k hk).2 h0
  exact ⟨b', o', T', cs', e, hF b' ⟨h1, h2⟩, Nat.lt_of_lt_of_le h2 h.1, hh⟩
theorem gegNew {P : Program} {f : FuncId} {args : Array Value} {w1 : World} {n : Nat} {rs : List Ring_} {V : Option Addr → Nat → Value} (h : Calls P f args w1 fun e w' => ∃ A c, e = .returned (V A c) ∧ OwnG w1.heap.size w'.heap.size w' A n rs ∧ Over w1 w') :
    Calls P f args w1 fun e w' => ∃ x : (Option Addr × Nat) × Nat × Nat, e = .returned (V x.1.1 x.1.2) ∧ Over w1 w' ∧ (gegR n rs x.2.1 x.2.2 x.1.1).P w' ∧ (∀ b, (gegR n rs x.2.1 x.2.2 x.1.1).F b → w1.heap.size ≤ b) ∧ (gegR n rs x.2.1 x.2.2 x.1.1).B = 0 ∧ True := by
  refine h.mono ?_
  rintro e w' ⟨A, c, rfl, ho, hO⟩
  exact ⟨((A, c), w1.heap.size, w'.heap.size), rfl, hO, gegP ho (Nat.le_refl _), fun b hb => hb.1, rfl, trivial⟩
theorem gegNew1 {P : Program} {f : FuncId} {args : Array Value} {w1 : World} {n : Nat} {rs : List Ring_} {V : Nat → Value} (h : Calls P f args w1 fun e w' => ∃ g, e = .returned (V g) ∧ OwnG w1.heap.size w'.heap.size w' (some ⟨g, 0, none⟩) n rs ∧ Over w1 w') :
    Calls P f args w1 fun e w' => ∃ x : Nat × Nat × Nat, e = .returned (V x.1) ∧ Over w1 w' ∧ (gegR n rs x.2.1 x.2.2 (some ⟨x.1, 0, none⟩)).P w' ∧ (∀ b, (gegR n rs x.2.1 x.2.2 (some ⟨x.1, 0, none⟩)).F b → w1.heap.size ≤ b) ∧ (gegR n rs x.2.1 x.2.2 (some ⟨x.1, 0, none⟩)).B = 0 ∧ True := by
  refine h.mono ?_
  rintro e w' ⟨g, rfl, ho, hO⟩
  exact ⟨(g, w1.heap.size, w'.heap.size), rfl, hO, gegP ho (Nat.le_refl _), fun b hb => hb.1, rfl, trivial⟩
theorem toRingS_new (A : Option Addr) (n c : Nat) (rs : List Ring_) (w : World) (h : Rings w A n rs) (ht : (total rs : Int) ≤ 1048576) :
    Calls Try.prog 74 #[.slice A n c] w fun e w' => ∃ g, e = .returned (.slice (some ⟨g, 0, none⟩) n n) ∧ OwnG w.heap.size w'.heap.size w' (some ⟨g, 0, none⟩) n rs ∧ Over w w' := by
  have hl := h.1
  have hn : (n : Int) ≤ 1048576 := by unfold total at ht; omega
  refine walk_from (m := 23) (Try.func74) rfl rfl (Nat.le_of_ble_eq_true rfl) ?_
  refine at_seq ?_
  refine at_region ?_
  refine at_q rfl rfl (by decide) (qt_assign rfl rfl) ?_
  refine at_end ?_
  refine at_seq ?_
  refine at_region ?_
  refine at_q rfl rfl (by decide) (qt_move rfl rfl) ?_
  refine at_q rfl rfl (by decide) (qt_len rfl rfl tyl_sl_laws_Ring) ?_
  refine at_op rfl ?_
  refine op_make rfl rfl rfl tyl_sl_impl_Ring tyz_impl_Ring rfl (by decide) (by omega) (by omega) (fun b1 => ?_)
  refine at_rsE (by simp only [List.nil_append, List.cons_append, List.set_cons_zero, List.set_cons_succ, Value.cells, List.toList_toArray]; rfl) ?_
  refine at_q rfl rfl (by decide) (qt_assign rfl rfl) ?_
  refine at_many0 ?_
  refine at_rsE (by simp only [List.nil_append, List.cons_append, List.set_cons_zero, List.set_cons_succ, Value.cells, List.toList_toArray]; rfl) ?_
  refine at_end ?_
  refine at_seq ?_
  refine at_seq ?_
  refine at_region ?_
  refine at_q rfl rfl (by decide) (qt_assign rfl rfl) ?_
  refine at_end ?_
  refine at_block ?_
  refine at_loopc (X := Nat × List Pc) (fun x => x.1 ≤ n ∧ x.2.map (·.xs) = rs.take x.1) (fun x => n - x.1) (fun x => [(4, .int .i64 (x.1 : Int))]) (C := [(0, _), (2, _), (3, _)]) ⟨rfl, rfl, rfl, trivial⟩ (fun x => [.cel b1 38 (x.2.map Pc.val ++ List.replicate (n - x.1) (.slice none 0 0)), pcsR x.2]) (0, []) (⟨Nat.zero_le _, rfl⟩) ⟨rfl, rfl, rfl, rfl, trivial⟩ (fun _ h => h.upto ⟨by rw [made_nil]; rfl, rfl, trivial⟩) ?_
  intro ⟨k, l⟩ hx L hL
  refine at_envE (by simp only [List.nil_append, List.cons_append]; rfl) ?_
  refine at_rsE (by first | (dsimp only; done) | (dsimp only; rfl) | rfl) ?_
  have hk : k ≤ n := hx.1
  have hmp : l.map (·.xs) = rs.take k := hx.2
  have hlk : l.length = k := by have := congrArg List.length hmp; rw [List.length_map, List.length_take] at this; omega
  refine at_seq ?_
  refine at_seq ?_
  refine at_region ?_
  refine at_q rfl rfl (by decide) (qt_move rfl rfl) ?_
  refine at_q rfl rfl (by decide) (qt_move rfl rfl) ?_
  refine at_q rfl rfl (by decide) (qt_len rfl rfl tyl_sl_laws_Ring) ?_
  refine at_q rfl rfl (by decide) (qt_lss rfl rfl rfl) ?_
  refine at_end ?_
  refine at_cond rfl (fun c1 => ?_) (fun c1 => ?_)
  · try simp only [decide_eq_true_eq, decide_eq_false_iff_not, beq_iff_eq, beq_eq_false_iff_ne, Bool.not_eq_true', Bool.not_eq_false', Bool.not_true, Bool.not_false, Int.not_lt, Int.not_le, ne_eq, Nat.not_lt, Nat.not_le] at c1
    have hlt : k < n := (by omega)
    obtain ⟨bb, oo, Ak, ck, rfl, hbB, hcell, hpts, hmax⟩ := h.at_ hlt
    have hr : ((rg rs k).length : Int) ≤ 1048576 := by have := rg_le_total rs (k := k) (by omega); omega
    refine at_skip ?_
    refine norm_then ?_
    refine at_seq ?_
    refine at_block ?_
    refine at_region ?_
    refine at_q rfl rfl (by decide) (qt_move rfl rfl) ?_
    refine at_q rfl rfl (by decide) (qt_move rfl rfl) ?_
    refine at_q rfl rfl (by decide) (qt_move rfl rfl) ?_
    refine at_q rfl rfl (by decide) (qt_move rfl rfl) ?_
    refine at_q rfl rfl (by decide) (qt_index rfl rfl rfl tyl_sl_laws_Ring (by omega)) ?_
    refine at_q rfl rfl (by decide) (qt_loadS rfl rfl tys_laws_Ring rfl (rdOld1 hcell hbB)) ?_
    refine at_op rfl ?_
    refine op_call ok_laws_toRing  rfl rfl rfl (by decide) (fun w1 hs => newPc rfl (toRing_any _ _ _ (rg rs k) w1 (hpts.over hs.fin) hr)) ?_
    rintro ⟨pg, plo, phi⟩ -
    refine at_rsE (by simp only [List.nil_append, List.cons_append, List.set_cons_zero, List.set_cons_succ, Value.cells, List.toList_toArray]; rfl) ?_
    refine at_q rfl rfl (by decide) (qt_index rfl rfl rfl tyl_sl_impl_Ring (by omega)) ?_
    refine at_op rfl ?_
    refine op_store (k := 0) rfl rfl rfl rfl rfl (by rfl) tyz_impl_Ring.szx rfl rfl (by simp; omega) ?_
    refine at_nil ?_
    refine at_push 1 2 rfl rfl (by decide) rfl ?_
    refine at_rsE (by simp only [List.nil_append, List.cons_append, List.set_cons_zero, List.set_cons_succ, List.eraseIdx_cons_zero, List.eraseIdx_cons_succ, Value.cells, List.toList_toArray]; rfl) ?_
    refine norm_block ?_
    refine norm_then ?_
    refine at_region ?_
    refine at_q rfl rfl (by decide) (qt_move rfl rfl) ?_
    refine at_q rfl rfl (by decide) (qt_add rfl rfl rfl (by omega) (by omega)) ?_
    refine at_q rfl rfl (by decide) (qt_assign rfl rfl) ?_
    refine at_end ?_
    exact at_againc hL ((k + 1, l ++ [⟨rg rs k, some ⟨pg, 0, none⟩, (rg rs k).length, plo, phi⟩])) (⟨show k + 1 ≤ n by omega, by rw [List.map_append, hmp, take_step (by omega)]; rfl⟩) (by simp only; omega) ⟨vi (by omega), rfl, rfl, rfl, trivial⟩ (fun _ h => h.upto ⟨by rw [← hdr_step l _ hlk hlt], (pcsR_push _ _).symm, trivial⟩)
  · try simp only [decide_eq_true_eq, decide_eq_false_iff_not, beq_iff_eq, beq_eq_false_iff_ne, Bool.not_eq_true', Bool.not_eq_false', Bool.not_true, Bool.not_false, Int.not_lt, Int.not_le, ne_eq, Nat.not_lt, Nat.not_le] at c1
    have hkn : k = n := (by omega)
    refine at_exit ?_
    refine pass_then (fun h => by cases h) ?_
    refine pass_then (fun h => by cases h) ?_
    refine pass_hit ?_
    refine norm_then ?_
    refine at_seq ?_
    refine at_region ?_
    refine at_q rfl rfl (by decide) (qt_move rfl rfl) ?_
    refine at_q rfl rfl (by decide) (qt_assign rfl rfl) ?_
    refine at_end ?_
    refine at_retc ?_
    refine at_ret1 rfl (.tmp rfl) ?_
    intro w' hs
    subst hkn
    have hrs : l.map (·.xs) = rs := by rw [hmp, List.take_of_length_le (by omega)]
    refine ⟨b1, rfl, ?_, hs.fin⟩
    have hX := (hs.all 1 _ rfl)
    have hg := pcs_own (lo := w.heap.size) (o := 0) (hs.cel (k := 0) rfl) ((hs.all 0 _ rfl).2.1 b1 rfl |>.elim id (fun h => by cases h)) (fun j hj => hdr_at l _ j hj) hX.1 (fun hF => hs.apart 0 1 _ _ (by decide) rfl rfl b1 rfl hF) (fun q hq => (hX.2.1 q hq).elim id (fun h => by cases h)) (fun e he => ?_)
    rw [hrs, hlk] at hg
    exact hg
    have : e.xs ∈ rs := hrs ▸ List.mem_map.2 ⟨e, he, rfl⟩
    obtain ⟨j, hj, e2⟩ := List.getElem_of_mem this
    have h1 := rg_le_total rs hj
    rw [← at_r hj, e2] at h1
    omega

theorem toRegion_new (A : Option Addr) (n c : Nat) (rs : List Ring_) (w : World) (h : Rings w A n rs) (ht : (total rs : Int) ≤ 1048576) :
    Calls Try.prog 27 #[regV A n c] w fun e w' => ∃ g, e = .returned (regV (some ⟨g, 0, none⟩) n n) ∧ OwnG w.heap.size w'.heap.size w' (some ⟨g, 0, none⟩) n rs ∧ Over w w' := by
  refine walk_from (m := 9) (Try.func27) rfl rfl (Nat.le_of_ble_eq_true rfl) ?_
  refine at_seq ?_
  refine at_region ?_
  refine at_op rfl ?_
  refine op_box rfl rfl (rfl) rfl (by decide) (fun b1 => ?_)
  refine at_rsE (by simp only [List.nil_append, List.cons_append, List.set_cons_zero, List.set_cons_succ, Value.cells, List.toList_toArray]; rfl) ?_
  refine at_op rfl ?_
  refine op_alloc rfl tyz_impl_Region rfl (by decide) (fun b2 => ?_)
  refine at_rsE (by simp only [List.nil_append, List.cons_append, List.set_cons_zero, List.set_cons_succ, Value.cells, List.toList_toArray]; rfl) ?_
  refine at_end ?_
  refine at_seq ?_
  refine at_region ?_
  refine at_op rfl ?_
  refine op_alloc rfl tyz_impl_Region rfl (by decide) (fun b3 => ?_)
  refine at_rsE (by simp only [List.nil_append, List.cons_append, List.set_cons_zero, List.set_cons_succ, Value.cells, List.toList_toArray]; rfl) ?_
  refine at_end ?_
  refine at_seq ?_
  refine at_region ?_
  refine at_q rfl rfl (by decide) (qt_fieldAddr rfl rfl tyf_laws_Region_0) ?_
  refine at_q rfl rfl (by decide) (qt_load1 rfl rfl ty1_sl_laws_Ring (rd1 (k := 0) rfl rfl)) ?_
  refine at_op rfl ?_
  refine op_call ok_laws_toRingS (X := Nat × Nat × Nat) (v := fun x => .slice (some ⟨x.1, 0, none⟩) n n) (r := fun x => gegR n rs x.2.1 x.2.2 (some ⟨x.1, 0, none⟩)) (H := fun _ => True) rfl rfl rfl (by decide) (fun w1 hs => gegNew1 (toRingS_new A n c rs w1 (h.over hs.fin) ht)) ?_
  rintro ⟨g, lo, hi⟩ -
  refine at_rsE (by simp only [List.nil_append, List.cons_append, List.set_cons_zero, List.set_cons_succ, Value.cells, List.toList_toArray]; rfl) ?_
  refine at_q rfl rfl (by decide) (qt_fieldAddr rfl rfl tyf_impl_Region_0) ?_
  refine at_op rfl ?_
  refine op_storeAll' (k := 2) rfl rfl rfl rfl (rfl) (by rfl) tyz_sl_impl_Ring.szx rfl rfl rfl ?_
  refine at_rsE (by simp only [List.nil_append, List.cons_append, List.set_cons_zero, List.set_cons_succ, Value.cells, List.toList_toArray]; rfl) ?_
  refine at_end ?_
  refine at_seq ?_
  refine at_region ?_
  refine at_q rfl rfl (by decide) (qt_loadS rfl rfl tys_impl_Region rfl (rdAll (k := 2) rfl)) ?_
  refine at_op rfl ?_
  refine op_storeAll' (k := 1) rfl rfl rfl rfl (rfl) (by rfl) tyz_impl_Region.szx rfl rfl rfl ?_
  refine at_rsE (by simp only [List.nil_append, List.cons_append, List.set_cons_zero, List.set_cons_succ, Value.cells, List.toList_toArray]; rfl) ?_
  refine at_end ?_
  refine at_retc ?_
  refine at_ret1 rfl (rvCelS (k := 1) rfl tys_impl_Region rfl rfl) ?_
  intro w' hs
  have hg := hs.all 3 _ rfl
  exact ⟨g, rfl, gegTop hg.1 (fun b hb => (hg.2.1 b hb).elim id (fun h => by cases h)), hs.fin⟩
end Go.Proofs.Ytnalgllmdpcjcaa
