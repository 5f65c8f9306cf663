/- The source of choices: pens and points that are drawn. -/
import Derived.Test.YtcplmmoeglembaaSrc2
namespace Go.Proofs.Ytcplmmoeglembaa
open Go Go.RowKit
set_option linter.unusedVariables false
set_option linter.unusedSimpArgs false
set_option maxRecDepth 100000
set_option maxHeartbeats 4000000
set_option linter.unusedVariables false
set_option linter.unusedSimpArgs false

theorem at_row00 {n : Nat} {env : List (Nat × Value)} {w0 : Bs} {Rs : List Res} {K : Act → World → Prop} (k s : Nat) {b U : Nat} (hk : Rs[k]? = some (.cel b U [])) (h : At n env w0 (Rs.set k (.row 0 U s (.slice (some ⟨b, 0, none⟩) 0 0) 0 [])) K) : At n env w0 Rs K := fun a w hf hs => by
  refine h a w hf (hs.chg hk (fun hP => ?_) (fun c hc => ?_) rfl)
  · exact ⟨by simp, .inr ⟨b, 0, #[], rfl, Nat.zero_le _, hP, Nat.le_refl _, by unfold maxLen; omega, by simp, by simp⟩⟩
  · have : some b = some c := hc
    injection this with this
    exact this.symm
theorem bdI_2 {m : Int} {p : Pn} (h : bdI m p) (hm : m ≤ 262144) : bd2 p := by
  obtain ⟨⟨h1, h2⟩, h3, h4⟩ := h
  exact ⟨⟨by omega, by omega⟩, by omega, by omega⟩
theorem allOk_of {xs : List Pn} (h : ∀ p ∈ xs, bd2 p) : allOk xs = true := List.all_eq_true.2 fun p hp => bd2_ok (h p hp)
theorem l00From_any (A : Option Addr) (n c : Nat) (w : World) :
    Calls Try.prog 76 #[.slice A n c] w fun e w' => ∃ g : Nat, e = .returned (.pointer (some ⟨g, 0, none⟩)) ∧ Over w w' ∧ (srcR g A n c 0).P w' ∧ (∀ q, (srcR g A n c 0).F q → w.heap.size ≤ q) ∧ (srcR g A n c 0).B = 0 ∧ True := by
  refine walk_from (m := 6) (Try.func76) rfl rfl (Nat.le_of_ble_eq_true rfl) ?_
  refine at_seq ?_
  refine at_region ?_
  refine at_q rfl rfl (by decide) (qt_assign rfl rfl) ?_
  refine at_end ?_
  refine at_seq ?_
  refine at_region ?_
  refine at_q rfl rfl (by decide) (qt_move rfl rfl) ?_
  refine at_q rfl rfl (by decide) (qt_build rfl rfl (bld_spec_l00Src_0 rfl)) ?_
  refine at_op rfl ?_
  refine op_box rfl rfl (rfl) rfl (by decide) (fun b1 => ?_)
  refine at_rsE (by simp only [List.nil_append, List.cons_append, List.set_cons_zero, List.set_cons_succ, Value.cells, List.toList_toArray]; rfl) ?_
  refine at_q rfl rfl (by decide) (qt_assign rfl rfl) ?_
  refine at_end ?_
  refine at_retc ?_
  refine at_ret1 rfl (.tmp rfl) ?_
  intro w' hs
  exact ⟨b1, rfl, hs.fin, ⟨0, 0, Nat.le_refl _, by decide, by decide, hs.cel (k := 0) rfl⟩, fun q hq => hq ▸ ((hs.all 0 _ rfl).2.1 b1 rfl).elim id (fun h => by cases h), rfl, trivial⟩
theorem l11Size_any (v : Int) (w : World) : Calls Try.prog 116 #[.int .i64 v] w fun e w' => e = .returned (.bool (inB v 0 262144)) ∧ Over w w' := by
  refine walk_from (m := 5) (Try.func116) rfl rfl (Nat.le_of_ble_eq_true rfl) ?_
  refine at_seq ?_
  refine at_region ?_
  refine at_q rfl rfl (by decide) (qt_assign rfl rfl) ?_
  refine at_end ?_
  refine at_seq ?_
  refine at_region ?_
  refine at_q rfl rfl (by decide) (qt_move rfl rfl) ?_
  refine at_q rfl rfl (by decide) (qt_call ok_spec_l00In rfl rfl (fun w1 hs => Calls.still (l00In_any _ _ _ w1))) ?_
  refine at_q rfl rfl (by decide) (qt_assign rfl rfl) ?_
  refine at_end ?_
  refine at_retc ?_
  refine at_ret1 rfl (.tmp rfl) ?_
  intro w' hs
  exact ⟨rfl, hs.fin⟩
/-- The corners of a box. -/
def boxP (v h : Int) : List Pn := [(-(v.tdiv 2), -(h.tdiv 2)), (-(v.tdiv 2) + v, -(h.tdiv 2)), (-(v.tdiv 2) + v, -(h.tdiv 2) + h), (-(v.tdiv 2), -(h.tdiv 2) + h)]
theorem half_in {v : Int} (h0 : 0 ≤ v) (h1 : v < 7) : 0 ≤ v.tdiv 2 ∧ v.tdiv 2 ≤ 3 := by
  rw [Int.tdiv_eq_ediv_of_nonneg h0]
  omega
theorem box_in {v h : Int} (v0 : 0 ≤ v) (v1 : v < 7) (h0 : 0 ≤ h) (h1 : h < 7) : ∀ p ∈ boxP v h, bd2 p := by
  have a := half_in v0 v1
  have b := half_in h0 h1
  intro p hp
  simp only [boxP, List.mem_cons, List.not_mem_nil, or_false] at hp
  unfold bd2
  rcases hp with rfl | rfl | rfl | rfl <;> simp only <;> omega
theorem BoxPen_any (v h : Int) (w : World) (v0 : 0 ≤ v) (v1 : v < 7) (h0 : 0 ≤ h) (h1 : h < 7) :
    Calls Try.prog 105 #[.int .i64 v, .int .i64 h] w fun e w' => ∃ x : Option Addr × Nat, e = .returned (.tuple #[.slice x.1 (hullP (boxP v h)).length x.2, .int .i64 0]) ∧ w'.ownsRow w.heap.size 34 2 (.slice x.1 (hullP (boxP v h)).length x.2) (hullP (boxP v h)).length ((hullP (boxP v h)).flatMap ptCells) ∧ Over w w' := by
  have a := half_in v0 v1
  have b := half_in h0 h1
  have i1 : inB v 0 262144 = true := by simp [inB]; omega
  have i2 : inB h 0 262144 = true := by simp [inB]; omega
  refine walk_from (m := 46) (Try.func105) rfl rfl (Nat.le_of_ble_eq_true rfl) ?_
  refine at_seq ?_
  refine at_region ?_
  refine at_q rfl rfl (by decide) (qt_assign rfl rfl) ?_
  refine at_q rfl rfl (by decide) (qt_assign rfl rfl) ?_
  refine at_end ?_
  refine at_seq ?_
  refine at_seq ?_
  refine at_region ?_
  refine at_q rfl rfl (by decide) (qt_move rfl rfl) ?_
  refine at_q rfl rfl (by decide) (qt_call ok_spec_l11Size rfl rfl (fun w1 hs => l11Size_any v w1)) ?_
  refine at_q rfl rfl (by decide) (qt_not rfl rfl) ?_
  refine at_q rfl rfl (by decide) (qt_move rfl rfl) ?_
  refine at_as 11 (.bool false) rfl (by rw [(show (!(inB v 0 262144)) = false by rw [i1]; rfl)]) ?_
  refine at_on rfl rfl rfl rfl ?_
  refine op_q rfl (by decide) (qt_move rfl rfl) ?_
  refine at_on rfl rfl rfl rfl ?_
  refine op_q rfl (by decide) (qt_call ok_spec_l11Size rfl rfl (fun w1 hs => l11Size_any h w1)) ?_
  refine at_on rfl rfl rfl rfl ?_
  refine op_q rfl (by decide) (qt_not rfl rfl) ?_
  refine at_q rfl rfl (by decide) (qt_pickF rfl rfl rfl) ?_
  refine at_end ?_
  refine at_no rfl ((by rw [i2]; rfl)) ?_
  refine at_skip ?_
  refine norm_then ?_
  refine at_seq ?_
  refine at_region ?_
  refine at_q rfl rfl (by decide) (qt_move rfl rfl) ?_
  refine at_q rfl rfl (by decide) (qt_quo rfl rfl rfl (by omega) (by omega) (by omega)) ?_
  refine at_q rfl rfl (by decide) (qt_neg rfl rfl (by omega) (by omega)) ?_
  refine at_q rfl rfl (by decide) (qt_move rfl rfl) ?_
  refine at_q rfl rfl (by decide) (qt_quo rfl rfl rfl (by omega) (by omega) (by omega)) ?_
  refine at_q rfl rfl (by decide) (qt_neg rfl rfl (by omega) (by omega)) ?_
  refine at_q rfl rfl (by decide) (qt_build rfl rfl (bld_impl_Pt_0_1 rfl rfl)) ?_
  refine at_op rfl ?_
  refine op_alloc rfl tyz_impl_Pt rfl (by decide) (fun b1 => ?_)
  refine at_rsE (by simp only [List.nil_append, List.cons_append, List.set_cons_zero, List.set_cons_succ, Value.cells, List.toList_toArray]; rfl) ?_
  refine at_op rfl ?_
  refine op_storeAll' (k := 0) rfl rfl rfl rfl (rfl) (by rfl) tyz_impl_Pt.szx rfl rfl rfl ?_
  refine at_rsE (by simp only [List.nil_append, List.cons_append, List.set_cons_zero, List.set_cons_succ, Value.cells, List.toList_toArray]; rfl) ?_
  refine at_end ?_
  refine at_seq ?_
  refine at_region ?_
  refine at_q rfl rfl (by decide) (qt_fieldAddr rfl rfl tyf_impl_Pt_0) ?_
  refine at_q rfl rfl (by decide) (qt_load1 rfl rfl ty1_int64 (rd1 (k := 0) rfl rfl)) ?_
  refine at_q rfl rfl (by decide) (qt_move rfl rfl) ?_
  refine at_q rfl rfl (by decide) (qt_add rfl rfl rfl (by omega) (by omega)) ?_
  refine at_q rfl rfl (by decide) (qt_fieldAddr rfl rfl tyf_impl_Pt_1) ?_
  refine at_q rfl rfl (by decide) (qt_load1 rfl rfl ty1_int64 (rd1 (k := 0) rfl rfl)) ?_
  refine at_q rfl rfl (by decide) (qt_move rfl rfl) ?_
  refine at_q rfl rfl (by decide) (qt_add rfl rfl rfl (by omega) (by omega)) ?_
  refine at_q rfl rfl (by decide) (qt_build rfl rfl (bld_impl_Pt_0_1 rfl rfl)) ?_
  refine at_op rfl ?_
  refine op_alloc rfl tyz_impl_Pt rfl (by decide) (fun b2 => ?_)
  refine at_rsE (by simp only [List.nil_append, List.cons_append, List.set_cons_zero, List.set_cons_succ, Value.cells, List.toList_toArray]; rfl) ?_
  refine at_op rfl ?_
  refine op_storeAll' (k := 1) rfl rfl rfl rfl (rfl) (by rfl) tyz_impl_Pt.szx rfl rfl rfl ?_
  refine at_rsE (by simp only [List.nil_append, List.cons_append, List.set_cons_zero, List.set_cons_succ, Value.cells, List.toList_toArray]; rfl) ?_
  refine at_end ?_
  refine at_seq ?_
  refine at_region ?_
  refine at_q rfl rfl (by decide) (qt_loadS rfl rfl tys_impl_Pt rfl (rdAll (k := 0) rfl)) ?_
  refine at_q rfl rfl (by decide) (qt_fieldAddr rfl rfl tyf_impl_Pt_0) ?_
  refine at_q rfl rfl (by decide) (qt_load1 rfl rfl ty1_int64 (rd1 (k := 1) rfl rfl)) ?_
  refine at_q rfl rfl (by decide) (qt_fieldAddr rfl rfl tyf_impl_Pt_1) ?_
  refine at_q rfl rfl (by decide) (qt_load1 rfl rfl ty1_int64 (rd1 (k := 0) rfl rfl)) ?_
  refine at_q rfl rfl (by decide) (qt_build rfl rfl (bld_impl_Pt_0_1 rfl rfl)) ?_
  refine at_q rfl rfl (by decide) (qt_loadS rfl rfl tys_impl_Pt rfl (rdAll (k := 1) rfl)) ?_
  refine at_q rfl rfl (by decide) (qt_fieldAddr rfl rfl tyf_impl_Pt_0) ?_
  refine at_q rfl rfl (by decide) (qt_load1 rfl rfl ty1_int64 (rd1 (k := 0) rfl rfl)) ?_
  refine at_q rfl rfl (by decide) (qt_fieldAddr rfl rfl tyf_impl_Pt_1) ?_
  refine at_q rfl rfl (by decide) (qt_load1 rfl rfl ty1_int64 (rd1 (k := 1) rfl rfl)) ?_
  refine at_q rfl rfl (by decide) (qt_build rfl rfl (bld_impl_Pt_0_1 rfl rfl)) ?_
  refine at_op rfl ?_
  refine op_buildSlice rfl rfl (bsl_sl_impl_Pt_4_0_1_2_3 rfl rfl rfl rfl) rfl (by decide) (fun b3 => ?_)
  refine at_rsE (by simp only [List.nil_append, List.cons_append, List.set_cons_zero, List.set_cons_succ, Value.cells, List.toList_toArray]; rfl) ?_
  refine at_op rfl ?_
  refine op_call ok_spec_l11Hull (v := fun x => .slice x.1 _ x.2) (r := fun x => rowR 0 34 2 _ _ x) (H := fun _ => True) rfl rfl rfl (by decide) (fun w1 hs => newRow' (l11Hull_any _ 4 4 (boxP v h) w1 (ptsCel (boxP v h) (k := 2) rfl rfl w1 hs) (fun p hp => (box_in v0 v1 h0 h1 p hp).mid) (by decide))) ?_
  rintro ⟨pA, pc⟩ -
  refine at_rsE (by simp only [List.nil_append, List.cons_append, List.set_cons_zero, List.set_cons_succ, Value.cells, List.toList_toArray]; rfl) ?_
  refine at_q rfl rfl (by decide) (qt_assign rfl rfl) ?_
  refine at_q rfl rfl (by decide) (qt_assign rfl rfl) ?_
  refine at_end ?_
  refine at_retc ?_
  refine at_ret2 rfl (.tmp rfl) (.tmp rfl) ?_
  intro w' hs
  exact ⟨(pA, pc), rfl, rowBack hs (k := 3) rfl, hs.fin⟩
theorem pen_box {v h : Int} (v0 : 0 ≤ v) (v1 : v < 7) (h0 : 0 ≤ h) (h1 : h < 7) : penB (hullP (boxP v h)) = true :=
  pen_hull (l := boxP v h) (show 0 < 4 by decide) (allOk_of fun p hp => box_in v0 v1 h0 h1 p (hull_mem hp)) (hull_small (l := boxP v h) (show 4 ≤ 9 by decide))
theorem pen_drawn {xs : List Pn} (h0 : 0 < xs.length) (h9 : xs.length ≤ 9) (h : ∀ p ∈ xs, bd2 p) : penB (hullP xs) = true :=
  pen_hull h0 (allOk_of fun p hp => h p (hull_mem hp)) (hull_small h9)
/-- A pen that was drawn. -/
abbrev Pen := { xs : List Pn // penB xs = true }
theorem rowX {w w' : World} {b : Nat} {Rs : List Res} (hs : St ⟨w, [b]⟩ Rs w') {k B T s n : Nat} {x : Option Addr × Nat} {xs : List Value} {r : Res} (hk : Rs[k]? = some (rowR B T s n xs x)) (hF : r.F b) : (rowR 0 T s n xs x).P w' ∧ (∀ q, (rowR 0 T s n xs x).F q → r.F q ∨ w.heap.size ≤ q) ∧ (rowR 0 T s n xs x).B = 0 := by
  have hr := hs.all k _ hk
  refine ⟨row_low hr.1 (Nat.zero_le _), fun q hq => ?_, rfl⟩
  rcases hr.2.1 q hq with h | h
  · exact .inr h
  · rw [List.mem_singleton.1 h]; exact .inl hF
theorem draw9_any (b n c K : Nat) (A : Option Addr) (zs : List Int) (w : World) (hB : Byts w A n zs) (hne : 0 < n → ∀ p, A = some p → p.block ≠ b) (hP : (srcR b A n c K).P w) (hn : n ≤ 1048576) (hK : K ≤ 1000) :
    Calls Try.prog 77 #[.pointer (some ⟨b, 0, none⟩), .int .i64 5] w fun e w' => ∃ x : Pen × Option Addr × Nat, e = .returned (.slice x.2.1 x.1.1.length x.2.2) ∧ Wrs (srcR b A n c K).F w w' ∧ (rowR 0 34 2 x.1.1.length (x.1.1.flatMap ptCells) x.2).P w' ∧ (∀ q, (rowR 0 34 2 x.1.1.length (x.1.1.flatMap ptCells) x.2).F q → (srcR b A n c K).F q ∨ w.heap.size ≤ q) ∧ (rowR 0 34 2 x.1.1.length (x.1.1.flatMap ptCells) x.2).B = 0 := by
  refine walk_fromR (m := 38) ([b]) (srcR b A n c K) (hP) (fun q hq => List.mem_singleton.2 hq) rfl (Try.func77) rfl rfl (Nat.le_of_ble_eq_true rfl) ?_
  refine at_seq ?_
  refine at_region ?_
  refine at_q rfl rfl (by decide) (qt_assign rfl rfl) ?_
  refine at_end ?_
  refine at_seq ?_
  refine at_region ?_
  refine at_op rfl ?_
  refine op_buildSlice rfl rfl (bsl_sl_impl_Pt_0) rfl (by decide) (fun b1 => ?_)
  refine at_rsE (by simp only [List.nil_append, List.cons_append, List.set_cons_zero, List.set_cons_succ, Value.cells, List.toList_toArray]; rfl) ?_
  refine at_q rfl rfl (by decide) (qt_assign rfl rfl) ?_
  refine at_end ?_
  refine at_row00 1 2 rfl ?_
  refine at_rsE (by simp only [List.nil_append, List.cons_append, List.set_cons_zero, List.set_cons_succ, List.eraseIdx_cons_zero, List.eraseIdx_cons_succ, Value.cells, List.toList_toArray]; rfl) ?_
  refine at_seq ?_
  refine at_seq ?_
  refine at_region ?_
  refine at_q rfl rfl (by decide) (qt_move rfl rfl) ?_
  refine at_op rfl ?_
  refine op_callP (k := 0) (X := { v : Int // 0 ≤ v ∧ v < 9 }) (v := fun x => .int .i64 x.1) (r' := fun _ => srcR b A n c (K + 1)) ok_p_spec_l00Src_pick rfl rfl rfl (by decide) rfl (fun w1 hs => pick_any (zs := zs) 9 (by decide) (by decide) (hB.ovx hs.over hne) hne (hs.all 0 _ rfl).1 hn (by omega)) ?_
  rintro ⟨v1, hv1⟩
  refine at_rsE (by simp only [List.nil_append, List.cons_append, List.set_cons_zero, List.set_cons_succ, Value.cells, List.toList_toArray]; rfl) ?_
  try dsimp only
  refine at_q rfl rfl (by decide) (qt_add rfl rfl rfl (by omega) (by omega)) ?_
  refine at_q rfl rfl (by decide) (qt_assign rfl rfl) ?_
  refine at_end ?_
  refine at_block ?_
  refine at_loopc (X := Nat × List Pn × Option Addr × Nat) (fun x => (x.2.1.length + x.1 ≤ 9 ∧ 0 < x.2.1.length + x.1) ∧ ∀ p ∈ x.2.1, bd2 p) (fun x => x.1) (fun x => [(5, .slice x.2.2.1 x.2.1.length x.2.2.2), (6, .int .i64 (x.1 : Int))]) (C := [(0, _), (1, _), (4, _)]) ⟨rfl, rfl, rfl, trivial⟩ (fun x => [srcR b A n c (K + 1 + 8 * x.2.1.length), rowR 0 34 2 x.2.1.length (x.2.1.flatMap ptCells) x.2.2]) ((1 + v1).toNat, [], some ⟨b1, 0, none⟩, 0) (⟨⟨by simp; omega, by simp; omega⟩, fun p hp => absurd hp (by simp)⟩) ⟨rfl, vi (by omega), rfl, rfl, rfl, trivial⟩ (fun _ h => h) ?_
  intro ⟨j, xs, rA, rc⟩ hx L hL1
  refine at_envE (by simp only [List.nil_append, List.cons_append]; rfl) ?_
  refine at_rsE (by first | (dsimp only; done) | (dsimp only; rfl) | rfl) ?_
  obtain ⟨⟨h9, h1⟩, hbd⟩ : (xs.length + j ≤ 9 ∧ 0 < xs.length + j) ∧ ∀ p ∈ xs, bd2 p := hx
  refine at_seq ?_
  refine at_seq ?_
  refine at_region ?_
  refine at_q rfl rfl (by decide) (qt_move rfl rfl) ?_
  refine at_q rfl rfl (by decide) (qt_gtr rfl rfl rfl) ?_
  refine at_end ?_
  refine at_cond rfl (fun c1 => ?_) (fun c1 => ?_)
  · try simp only [decide_eq_true_eq, decide_eq_false_iff_not, beq_iff_eq, beq_eq_false_iff_ne, Bool.not_eq_true', Bool.not_eq_false', Bool.not_true, Bool.not_false, Int.not_lt, Int.not_le, ne_eq, Nat.not_lt, Nat.not_le] at c1
    refine at_skip ?_
    refine norm_then ?_
    refine at_seq ?_
    refine at_block ?_
    refine at_region ?_
    refine at_q rfl rfl (by decide) (qt_move rfl rfl) ?_
    refine at_q rfl rfl (by decide) (qt_move rfl rfl) ?_
    refine at_q rfl rfl (by decide) (qt_move rfl rfl) ?_
    refine at_op rfl ?_
    refine op_callP (k := 0) (X := { p : Pn // bdI 5 p }) (v := fun x => pV x.1) (r' := fun _ => srcR b A n c (K + 1 + 8 * xs.length + 8)) ok_spec_l03Draw rfl rfl rfl (by decide) rfl (fun w1 hs => draw_any (zs := zs) 5 (by decide) (by decide) (hB.ovx hs.over hne) hne (hs.all 0 _ rfl).1 hn (by omega)) ?_
    rintro ⟨q, hq⟩
    refine at_rsE (by simp only [List.nil_append, List.cons_append, List.set_cons_zero, List.set_cons_succ, Value.cells, List.toList_toArray]; rfl) ?_
    try dsimp only
    refine at_op rfl ?_
    refine op_buildSlice rfl rfl (bsl_sl_impl_Pt_1_0 rfl) rfl (by decide) (fun b2 => ?_)
    refine at_rsE (by simp only [List.nil_append, List.cons_append, List.set_cons_zero, List.set_cons_succ, Value.cells, List.toList_toArray]; rfl) ?_
    refine at_op rfl ?_
    refine op_appendR (k := 1) rfl tyl_sl_impl_Pt tyz_impl_Pt (by decide) rfl (by decide) rfl rfl rfl (fun w' hs => src_cel hs (k := 2) rfl rfl) (by simp [Value.oneCell']) (by unfold maxLen; omega) (by omega) (Nat.zero_le _) (fun r1 => ?_)
    refine at_rsE (by simp only [List.nil_append, List.cons_append, List.set_cons_zero, List.set_cons_succ, Value.cells, List.toList_toArray]; rfl) ?_
    refine at_q rfl rfl (by decide) (qt_assign rfl rfl) ?_
    refine at_nil ?_
    refine norm_block ?_
    refine norm_then ?_
    refine at_region ?_
    refine at_q rfl rfl (by decide) (qt_move rfl rfl) ?_
    refine at_q rfl rfl (by decide) (qt_sub rfl rfl rfl (by omega) (by omega)) ?_
    refine at_q rfl rfl (by decide) (qt_assign rfl rfl) ?_
    refine at_end ?_
    exact at_againc hL1 ((j - 1, xs ++ [q], r1)) (⟨⟨by simp; omega, by simp; omega⟩, fun p hp => (List.mem_append.1 hp).elim (hbd p) (fun h => by rw [List.mem_singleton.1 h]; exact bdI_2 hq (by decide))⟩) (by simp only; omega) ⟨(by rw [List.length_append]; rfl), vi (by omega), rfl, rfl, rfl, trivial⟩ (fun _ h => h.upto ⟨by rw [List.length_append]; rfl, by rw [List.length_append, List.flatMap_append]; rfl, trivial⟩)
  · try simp only [decide_eq_true_eq, decide_eq_false_iff_not, beq_iff_eq, beq_eq_false_iff_ne, Bool.not_eq_true', Bool.not_eq_false', Bool.not_true, Bool.not_false, Int.not_lt, Int.not_le, ne_eq, Nat.not_lt, Nat.not_le] at c1
    have hj0 : j = 0 := (by omega)
    have hl0 : 0 < xs.length := by omega
    refine at_exit ?_
    refine pass_then (fun h => by cases h) ?_
    refine pass_then (fun h => by cases h) ?_
    refine pass_hit ?_
    refine norm_then ?_
    refine at_seq ?_
    refine at_region ?_
    refine at_q rfl rfl (by decide) (qt_move rfl rfl) ?_
    refine at_op rfl ?_
    refine op_call ok_spec_l11Hull (v := fun x => .slice x.1 _ x.2) (r := fun x => rowR 0 34 2 _ _ x) (H := fun _ => True) rfl rfl rfl (by decide) (fun w1 hs => newRow' (l11Hull_any _ _ _ xs w1 (ptsRow (hs.all 1 _ rfl).1 rfl) (fun p hp => (hbd p hp).mid) (by omega))) ?_
    rintro ⟨pA, pc⟩ -
    refine at_rsE (by simp only [List.nil_append, List.cons_append, List.set_cons_zero, List.set_cons_succ, Value.cells, List.toList_toArray]; rfl) ?_
    refine at_q rfl rfl (by decide) (qt_assign rfl rfl) ?_
    refine at_end ?_
    refine at_seq ?_
    refine at_seq ?_
    refine at_region ?_
    refine at_q rfl rfl (by decide) (qt_move rfl rfl) ?_
    refine at_op rfl ?_
    refine op_callP (k := 0) (X := Bool) (v := fun x => .bool x) (r' := fun _ => srcR b A n c (K + 1 + 8 * xs.length + 1)) ok_p_spec_l00Src_one rfl rfl rfl (by decide) rfl (fun w1 hs => one_any (zs := zs) 4 (by decide) (by decide) (hB.ovx hs.over hne) hne (hs.all 0 _ rfl).1 hn (by omega)) ?_
    rintro ob
    refine at_rsE (by simp only [List.nil_append, List.cons_append, List.set_cons_zero, List.set_cons_succ, Value.cells, List.toList_toArray]; rfl) ?_
    refine at_end ?_
    refine at_cond rfl (fun c2 => ?_) (fun c2 => ?_)
    · try simp only [decide_eq_true_eq, decide_eq_false_iff_not, beq_iff_eq, beq_eq_false_iff_ne, Bool.not_eq_true', Bool.not_eq_false', Bool.not_true, Bool.not_false, Int.not_lt, Int.not_le, ne_eq, Nat.not_lt, Nat.not_le] at c2
      refine at_seq ?_
      refine at_region ?_
      refine at_q rfl rfl (by decide) (qt_move rfl rfl) ?_
      refine at_op rfl ?_
      refine op_callP (k := 0) (X := { v : Int // 0 ≤ v ∧ v < 7 }) (v := fun x => .int .i64 x.1) (r' := fun _ => srcR b A n c (K + 1 + 8 * xs.length + 2)) ok_p_spec_l00Src_pick rfl rfl rfl (by decide) rfl (fun w1 hs => pick_any (zs := zs) 7 (by decide) (by decide) (hB.ovx hs.over hne) hne (hs.all 0 _ rfl).1 hn (by omega)) ?_
      rintro ⟨bw, hbw⟩
      refine at_rsE (by simp only [List.nil_append, List.cons_append, List.set_cons_zero, List.set_cons_succ, Value.cells, List.toList_toArray]; rfl) ?_
      try dsimp only
      refine at_q rfl rfl (by decide) (qt_move rfl rfl) ?_
      refine at_op rfl ?_
      refine op_callP (k := 0) (X := { v : Int // 0 ≤ v ∧ v < 7 }) (v := fun x => .int .i64 x.1) (r' := fun _ => srcR b A n c (K + 1 + 8 * xs.length + 3)) ok_p_spec_l00Src_pick rfl rfl rfl (by decide) rfl (fun w1 hs => pick_any (zs := zs) 7 (by decide) (by decide) (hB.ovx hs.over hne) hne (hs.all 0 _ rfl).1 hn (by omega)) ?_
      rintro ⟨bh, hbh⟩
      refine at_rsE (by simp only [List.nil_append, List.cons_append, List.set_cons_zero, List.set_cons_succ, Value.cells, List.toList_toArray]; rfl) ?_
      try dsimp only
      refine at_op rfl ?_
      refine op_call ok_spec_BoxPen (v := fun x => .tuple #[.slice x.1 _ x.2, .int .i64 _]) (r := fun x => rowR 0 34 2 _ _ x) (H := fun _ => True) rfl rfl rfl (by decide) (fun w1 hs => newRowT (BoxPen_any bw bh w1 hbw.1 hbw.2 hbh.1 hbh.2)) ?_
      rintro ⟨qA, qc⟩ -
      refine at_rsE (by simp only [List.nil_append, List.cons_append, List.set_cons_zero, List.set_cons_succ, Value.cells, List.toList_toArray]; rfl) ?_
      refine at_q rfl rfl (by decide) (qt_move rfl rfl) ?_
      refine at_q rfl rfl (by decide) (qt_extract rfl rfl rfl) ?_
      refine at_q rfl rfl (by decide) (qt_extract rfl rfl rfl) ?_
      refine at_q rfl rfl (by decide) (qt_assign rfl rfl) ?_
      refine at_q rfl rfl (by decide) (qt_assign rfl rfl) ?_
      refine at_end ?_
      refine at_seq ?_
      refine at_region ?_
      refine at_q rfl rfl (by decide) (qt_move rfl rfl) ?_
      refine at_q rfl rfl (by decide) (qt_assign rfl rfl) ?_
      refine at_end ?_
      refine at_retc ?_
      refine then_ret ?_
      refine at_ret1 rfl (.tmp rfl) ?_
      intro w' hs
      exact ⟨(⟨_, pen_box hbw.1 hbw.2 hbh.1 hbh.2⟩, qA, qc), rfl, wrsX hs, rowX (r := srcR b A n c K) hs (k := 3) rfl rfl⟩
    · try simp only [decide_eq_true_eq, decide_eq_false_iff_not, beq_iff_eq, beq_eq_false_iff_ne, Bool.not_eq_true', Bool.not_eq_false', Bool.not_true, Bool.not_false, Int.not_lt, Int.not_le, ne_eq, Nat.not_lt, Nat.not_le] at c2
      refine at_skip ?_
      refine norm_then ?_
      refine at_seq ?_
      refine at_region ?_
      refine at_q rfl rfl (by decide) (qt_move rfl rfl) ?_
      refine at_q rfl rfl (by decide) (qt_assign rfl rfl) ?_
      refine at_end ?_
      refine at_retc ?_
      refine at_ret1 rfl (.tmp rfl) ?_
      intro w' hs
      exact ⟨(⟨_, pen_drawn hl0 (by omega) hbd⟩, pA, pc), rfl, wrsX hs, rowX (r := srcR b A n c K) hs (k := 2) rfl rfl⟩
end Go.Proofs.Ytcplmmoeglembaa
