import Derived.Test.YtjhaakollekjeaaDoorO24
import Derived.Test.YtjhaakollekjeaaDoorO17
import Derived.Test.YtjhaakollekjeaaDoorO27
namespace Go.Proofs.YtjhaakollekjeaaDoor
open Go Go.RowKit
set_option linter.unusedVariables false
set_option linter.unusedSimpArgs false
set_option maxRecDepth 100000
set_option maxHeartbeats 4000000
set_option linter.unusedVariables false
set_option linter.unusedSimpArgs false

/-! ### Middles -/
theorem bd2_sum {a b : Pn} (ha : bd2 a) (hb : bd2 b) : (-524288 ≤ a.1 + b.1 ∧ a.1 + b.1 ≤ 524288) ∧ -524288 ≤ a.2 + b.2 ∧ a.2 + b.2 ≤ 524288 := by
 obtain ⟨⟨a1, a2⟩, a3, a4⟩ := ha
 obtain ⟨⟨b1, b2⟩, b3, b4⟩ := hb
 omega
theorem midPt_any (a b : Pn) (w : World) (ha : bd2 a) (hb : bd2 b) : Calls Tryd.prog 68 #[pV a, pV b] w fun e w' => e = .returned (pV (mdP a b)) ∧ Over w w' := by
 obtain ⟨⟨s1, s2⟩, s3, s4⟩ := bd2_sum ha hb
 refine walk_from (m := 18) (Tryd.func68) rfl rfl (Nat.le_of_ble_eq_true rfl) ?_
 refine at_seq ?_
 refine at_region ?_
 refine at_op rfl ?_
 refine op_box rfl rfl (rfl) rfl (by decide) (fun b1 => ?_)
 refine at_rsE (by simp only [ya,yb,yc,yd,Value.cells,ye]; rfl) ?_
 refine at_op rfl ?_
 refine op_box rfl rfl (rfl) rfl (by decide) (fun b2 => ?_)
 refine at_rsE (by simp only [ya,yb,yc,yd,Value.cells,ye]; rfl) ?_
 refine at_op rfl ?_
 refine op_alloc rfl tyz_impl_Pt rfl (by decide) (fun b3 => ?_)
 refine at_rsE (by simp only [ya,yb,yc,yd,Value.cells,ye]; rfl) ?_
 refine at_end ?_
 refine at_seq ?_
 refine dg_start mixed rfl ?_
 refine dg_phaseW 14 [2] ?_
 refine dg_q (i := 0) rfl (by kernel_rfl) (by kernel_rfl) (by kernel_rfl) [] (by kernel_rfl) (fun _ _ _ h => h) rfl rfl (by decide) (fun _ h => (h.wk [2]).upto ⟨rfl, rfl, rfl, trivial⟩) (qt_fieldAddr rfl rfl tyf_impl_Pt_0) ?_
 refine dg_q (i := 1) rfl (by kernel_rfl) (by kernel_rfl) (by kernel_rfl) [] (by kernel_rfl) (fun _ _ _ h => h) rfl rfl (by decide) (fun _ h => (h.wk [2]).upto ⟨rfl, rfl, rfl, trivial⟩) (qt_load1 rfl rfl ty1_int64 (rd1 (k := 0) rfl rfl)) ?_
 refine dg_q (i := 2) rfl (by kernel_rfl) (by kernel_rfl) (by kernel_rfl) [] (by kernel_rfl) (fun _ _ _ h => h) rfl rfl (by decide) (fun _ h => (h.wk [2]).upto ⟨rfl, rfl, rfl, trivial⟩) (qt_fieldAddr rfl rfl tyf_impl_Pt_0) ?_
 refine dg_q (i := 3) rfl (by kernel_rfl) (by kernel_rfl) (by kernel_rfl) [] (by kernel_rfl) (fun _ _ _ h => h) rfl rfl (by decide) (fun _ h => (h.wk [2]).upto ⟨rfl, rfl, rfl, trivial⟩) (qt_load1 rfl rfl ty1_int64 (rd1 (k := 1) rfl rfl)) ?_
 refine dg_q (i := 4) rfl (by kernel_rfl) (by kernel_rfl) (by kernel_rfl) [] (by kernel_rfl) (fun _ _ _ h => h) rfl rfl (by decide) (fun _ h => (h.wk [2]).upto ⟨rfl, rfl, rfl, trivial⟩) (qt_add rfl rfl rfl (by omega) (by omega)) ?_
 refine dg_q (i := 5) rfl (by kernel_rfl) (by kernel_rfl) (by kernel_rfl) [] (by kernel_rfl) (fun _ _ _ h => h) rfl rfl (by decide) (fun _ h => (h.wk [2]).upto ⟨rfl, rfl, rfl, trivial⟩) (qt_call ok_impl_DivRound rfl rfl (fun w1 hs => Calls.still (DivRound_any (a.1 + b.1) 2 w1 (by omega) (by omega) (by omega) (by omega)))) ?_
 refine dg_q (i := 6) rfl (by kernel_rfl) (by kernel_rfl) (by kernel_rfl) [] (by kernel_rfl) (fun _ _ _ h => h) rfl rfl (by decide) (fun _ h => (h.wk [2]).upto ⟨rfl, rfl, rfl, trivial⟩) (qt_fieldAddr rfl rfl tyf_impl_Pt_1) ?_
 refine dg_q (i := 7) rfl (by kernel_rfl) (by kernel_rfl) (by kernel_rfl) [] (by kernel_rfl) (fun _ _ _ h => h) rfl rfl (by decide) (fun _ h => (h.wk [2]).upto ⟨rfl, rfl, rfl, trivial⟩) (qt_load1 rfl rfl ty1_int64 (rd1 (k := 0) rfl rfl)) ?_
 refine dg_q (i := 8) rfl (by kernel_rfl) (by kernel_rfl) (by kernel_rfl) [] (by kernel_rfl) (fun _ _ _ h => h) rfl rfl (by decide) (fun _ h => (h.wk [2]).upto ⟨rfl, rfl, rfl, trivial⟩) (qt_fieldAddr rfl rfl tyf_impl_Pt_1) ?_
 refine dg_q (i := 9) rfl (by kernel_rfl) (by kernel_rfl) (by kernel_rfl) [] (by kernel_rfl) (fun _ _ _ h => h) rfl rfl (by decide) (fun _ h => (h.wk [2]).upto ⟨rfl, rfl, rfl, trivial⟩) (qt_load1 rfl rfl ty1_int64 (rd1 (k := 1) rfl rfl)) ?_
 refine dg_q (i := 10) rfl (by kernel_rfl) (by kernel_rfl) (by kernel_rfl) [] (by kernel_rfl) (fun _ _ _ h => h) rfl rfl (by decide) (fun _ h => (h.wk [2]).upto ⟨rfl, rfl, rfl, trivial⟩) (qt_add rfl rfl rfl (by omega) (by omega)) ?_
 refine dg_q (i := 11) rfl (by kernel_rfl) (by kernel_rfl) (by kernel_rfl) [] (by kernel_rfl) (fun _ _ _ h => h) rfl rfl (by decide) (fun _ h => (h.wk [2]).upto ⟨rfl, rfl, rfl, trivial⟩) (qt_call ok_impl_DivRound rfl rfl (fun w1 hs => Calls.still (DivRound_any (a.2 + b.2) 2 w1 (by omega) (by omega) (by omega) (by omega)))) ?_
 refine dg_q (i := 12) rfl (by kernel_rfl) (by kernel_rfl) (by kernel_rfl) [] (by kernel_rfl) (fun _ _ _ h => h) rfl rfl (by decide) (fun _ h => (h.wk [2]).upto ⟨rfl, rfl, rfl, trivial⟩) (qt_build rfl rfl (bld_impl_Pt_0_1 rfl rfl)) ?_
 refine dg_one (i := 13) rfl (by decide) (by kernel_rfl) rfl ?_
 refine op_storeAll' (k := 2) rfl rfl rfl rfl (rfl) (by rfl) tyz_impl_Pt.szx rfl rfl rfl ?_
 refine at_rsE (by simp only [ya,yb,yc,yd,Value.cells,ye]; rfl) ?_
 refine dr_keep (fun _ h => (h.wk [2]).upto ⟨rfl, rfl, rfl, trivial⟩) ?_
 refine dg_done (by kernel_rfl) ?_
 refine norm_then ?_
 refine at_retc ?_
 refine at_ret1 rfl (rvCelS (k := 2) rfl tys_impl_Pt rfl rfl) ?_
 intro w' hs
 exact ⟨rfl, hs.fin⟩
/-! ### The program -/
abbrev quV (a b c : Pn) : Value := .agg #[.int .i64 a.1, .int .i64 a.2, .int .i64 b.1, .int .i64 b.2, .int .i64 c.1, .int .i64 c.2]
abbrev quCs (a b c : Pn) : List Value := [.int .i64 a.1, .int .i64 a.2, .int .i64 b.1, .int .i64 b.2, .int .i64 c.1, .int .i64 c.2]
theorem qpoints_any (a b c : Pn) (w : World) : Calls Tryd.prog 92 #[quV a b c] w fun e w' => ∃ g : Nat, e = .returned (.slice (some ⟨g, 0, none⟩) 3 3) ∧ Over w w' ∧ (Res.cel g 50 ([a, b, c].flatMap ptCells)).P w' ∧ (∀ d, (Res.cel g 50 ([a, b, c].flatMap ptCells)).F d → w.heap.size ≤ d) ∧ (Res.cel g 50 ([a, b, c].flatMap ptCells)).B = 0 ∧ True := by
 refine walk_from (m := 10) (Tryd.func92) rfl rfl (Nat.le_of_ble_eq_true rfl) ?_
 refine at_seq ?_
 refine at_region ?_
 refine at_op rfl ?_
 refine op_box rfl rfl (rfl) rfl (by decide) (fun b1 => ?_)
 refine at_rsE (by simp only [ya,yb,yc,yd,Value.cells,ye]; rfl) ?_
 refine at_q rfl rfl (by decide) (qt_assign rfl rfl) ?_
 refine at_end ?_
 refine at_seq ?_
 refine at_region ?_
 refine at_q rfl rfl (by decide) (qt_fieldAddr rfl rfl tyf_impl_Quad_0) ?_
 refine at_q rfl rfl (by decide) (qt_loadS rfl rfl tys_impl_Pt rfl (rd2 (k := 0) rfl rfl rfl)) ?_
 refine at_q rfl rfl (by decide) (qt_fieldAddr rfl rfl tyf_impl_Quad_1) ?_
 refine at_q rfl rfl (by decide) (qt_loadS rfl rfl tys_impl_Pt rfl (rd2 (k := 0) rfl rfl rfl)) ?_
 refine at_q rfl rfl (by decide) (qt_fieldAddr rfl rfl tyf_impl_Quad_2) ?_
 refine at_q rfl rfl (by decide) (qt_loadS rfl rfl tys_impl_Pt rfl (rd2 (k := 0) rfl rfl rfl)) ?_
 refine at_op rfl ?_
 refine op_buildSlice rfl rfl (bsl_sl_impl_Pt_3_0_1_2 rfl rfl rfl) rfl (by decide) (fun b2 => ?_)
 refine at_rsE (by simp only [ya,yb,yc,yd,Value.cells,ye]; rfl) ?_
 refine at_q rfl rfl (by decide) (qt_assign rfl rfl) ?_
 refine at_end ?_
 refine at_retc ?_
 refine at_ret1 rfl (.tmp rfl) ?_
 intro w' hs
 exact ⟨b2, rfl, hs.fin, (hs.all 1 _ rfl).1, fun b hb => ((hs.all 1 _ rfl).2.1 b hb).elim id (fun h => by cases h), rfl, trivial⟩
theorem q_bd {a b c : Pn} (ha : bd2 a) (hb : bd2 b) (hc : bd2 c) : ∀ p ∈ [a, b, c], bd2 p := fun p hp => by
 simp only [List.mem_cons, List.not_mem_nil, or_false] at hp
 rcases hp with rfl | rfl | rfl
 ·exact ha
 ·exact hb
 ·exact hc
theorem q_cmb (a b c : Pn) (k n : Int) : (rnd (cmbTo [a, b, c] [(n - k) * (n - k), 2 * (n - k) * k, k * k] 3).1 (n * n), rnd (cmbTo [a, b, c] [(n - k) * (n - k), 2 * (n - k) * k, k * k] 3).2 (n * n)) = qdQ a b c k n := by
 have key : ∀ a b c w x y : Int, 0 + a * w + b * x + c * y = w * a + x * b + y * c := fun a b c w x y => by grind
 refine Prod.ext ?_ ?_
 ·show rnd (0 + a.1 * ((n - k) * (n - k)) + b.1 * (2 * (n - k) * k) + c.1 * (k * k)) (n * n) = _
  rw [key]
  rfl
 ·show rnd (0 + a.2 * ((n - k) * (n - k)) + b.2 * (2 * (n - k) * k) + c.2 * (k * k)) (n * n) = _
  rw [key]
  rfl
theorem q_sec (a b c : Pn) : cmbTo [a, b, c] [1, -2, 1] 3 = secP a b c := by
 refine Prod.ext ?_ ?_
 ·show 0 + a.1 * 1 + b.1 * (-2) + c.1 * 1 = a.1 - 2 * b.1 + c.1
  omega
 ·show 0 + a.2 * 1 + b.2 * (-2) + c.2 * 1 = a.2 - 2 * b.2 + c.2
  omega
theorem n2_pos {n : Int} (h1 : 1 ≤ n) : 1 ≤ n * n := by
 have x1 := Int.mul_le_mul h1 h1 (by decide) (by omega)
 omega
theorem quadAt_any (a b c : Pn) (k n : Int) (w : World) (ha : bd2 a) (hb : bd2 b) (hc : bd2 c) (hk : 0 ≤ k) (hkn : k ≤ n) (h1 : 1 ≤ n) (hn : n ≤ 64) :
  Calls Tryd.prog 93 #[quV a b c, .int .i64 k, .int .i64 n] w fun e w' => e = .returned (pV (qdQ a b c k n)) ∧ Over w w' := by
 obtain ⟨⟨a1, a2⟩, ⟨a3, a4⟩, ⟨a5, a6⟩, a7, a8⟩ := w3_bd hk hkn hn
 have e0 := q_cmb a b c k n
 obtain ⟨u, hu⟩ : ∃ u, u = n - k := ⟨_, rfl⟩
 rw [← hu] at a1 a2 a5 a6 e0
 have c1 : 2 * u * k = 2 * (u * k) := by grind
 have d0 := n2_pos h1
 have hws : ∀ v ∈ [u * u, 2 * u * k, k * k], -1048576 ≤ v ∧ v ≤ 1048576 := fun v hv => by
  simp only [List.mem_cons, List.not_mem_nil, or_false] at hv
  rcases hv with rfl | rfl | rfl <;> constructor <;> omega
 obtain ⟨⟨f1, f2⟩, f3, f4⟩ := cmb_bd (q_bd ha hb hc) hws (Nat.le_refl _) 3 (Nat.le_refl _)
 refine walk_from (m := 29) (Tryd.func93) rfl rfl (Nat.le_of_ble_eq_true rfl) ?_
 refine at_seq ?_
 refine at_region ?_
 refine at_op rfl ?_
 refine op_box rfl rfl (rfl) rfl (by decide) (fun b1 => ?_)
 refine at_rsE (by simp only [ya,yb,yc,yd,Value.cells,ye]; rfl) ?_
 refine at_op rfl ?_
 refine op_alloc rfl tyz_impl_Pt rfl (by decide) (fun b2 => ?_)
 refine at_rsE (by simp only [ya,yb,yc,yd,Value.cells,ye]; rfl) ?_
 refine at_end ?_
 refine at_seq ?_
 refine at_region ?_
 refine at_q rfl rfl (by decide) (qt_move rfl rfl) ?_
 refine at_q rfl rfl (by decide) (qt_move rfl rfl) ?_
 refine at_q rfl rfl (by decide) (qt_sub rfl rfl rfl (by omega) (by omega)) ?_
 rw [← hu]
 refine at_q rfl rfl (by decide) (qt_assign rfl rfl) ?_
 refine at_end ?_
 refine at_seq ?_
 refine at_region ?_
 refine at_q rfl rfl (by decide) (qt_loadS rfl rfl tys_impl_Quad rfl (rdAll (k := 0) rfl)) ?_
 refine at_op rfl ?_
 refine op_call ok_impl_Quad_points (X := Nat) (v := fun g => .slice (some ⟨g, 0, none⟩) 3 3) (r := fun g => Res.cel g 50 ([a, b, c].flatMap ptCells)) (H := fun _ => True) rfl rfl rfl (by decide) (fun w1 hs => qpoints_any a b c w1) ?_
 rintro g -
 refine at_rsE (by simp only [ya,yb,yc,yd,Value.cells,ye]; rfl) ?_
 refine at_q rfl rfl (by decide) (qt_move rfl rfl) ?_
 refine at_q rfl rfl (by decide) (qt_move rfl rfl) ?_
 refine at_q rfl rfl (by decide) (qt_mul rfl rfl rfl (by omega) (by omega)) ?_
 refine at_q rfl rfl (by decide) (qt_move rfl rfl) ?_
 refine at_q rfl rfl (by decide) (qt_mul rfl rfl rfl (by omega) (by omega)) ?_
 refine at_q rfl rfl (by decide) (qt_move rfl rfl) ?_
 refine at_q rfl rfl (by decide) (qt_mul rfl rfl rfl (by omega) (by omega)) ?_
 refine at_q rfl rfl (by decide) (qt_move rfl rfl) ?_
 refine at_q rfl rfl (by decide) (qt_move rfl rfl) ?_
 refine at_q rfl rfl (by decide) (qt_mul rfl rfl rfl (by omega) (by omega)) ?_
 refine at_op rfl ?_
 refine op_buildSlice rfl rfl (bsl_sl_int64_3_0_1_2 rfl rfl rfl) rfl (by decide) (fun b3 => ?_)
 refine at_rsE (by simp only [ya,yb,yc,yd,Value.cells,ye]; rfl) ?_
 refine at_q rfl rfl (by decide) (qt_call ok_impl_combine rfl rfl (fun w1 hs => combine_any _ 3 3 [a, b, c] _ 3 3 [u * u, 2 * u * k, k * k] w1 (ptsCel [a, b, c] (k := 2) rfl rfl w1 hs) (numsCel [u * u, 2 * u * k, k * k] (k := 3) rfl rfl w1 hs) (by decide) (by decide) (q_bd ha hb hc) hws)) ?_
 refine at_q rfl rfl (by decide) (qt_move rfl rfl) ?_
 refine at_q rfl rfl (by decide) (qt_move rfl rfl) ?_
 refine at_q rfl rfl (by decide) (qt_mul rfl rfl rfl (by omega) (by omega)) ?_
 refine at_q rfl rfl (by decide) (qt_call ok_impl_divPt rfl rfl (fun w1 hs => e0 ▸ divPt_any (cmbTo [a, b, c] [u * u, 2 * u * k, k * k] 3) (n * n) w1 d0 (by omega) ⟨by omega, by omega⟩ ⟨by omega, by omega⟩)) ?_
 refine at_op rfl ?_
 refine op_storeAll' (k := 1) rfl rfl rfl rfl (rfl) (by rfl) tyz_impl_Pt.szx rfl rfl rfl ?_
 refine at_rsE (by simp only [ya,yb,yc,yd,Value.cells,ye]; rfl) ?_
 refine at_end ?_
 refine at_retc ?_
 refine at_ret1 rfl (rvCelS (k := 1) rfl tys_impl_Pt rfl rfl) ?_
 intro w' hs
 exact ⟨rfl, hs.fin⟩
theorem qd_zero {a b c : Pn} {t : Int} : ∃ l : Nat, l ≤ 6 ∧ qdV a b c t = l := lv_bd _ _
abbrev QdP (a b c : Pn) (t : Int) (v : Value) (e : Ending) (w w' : World) : Prop := ∃ x : Option Addr × Nat, e = .returned (.tuple #[.slice x.1 (qdR a b c t).length x.2, v]) ∧ Over w w' ∧ (rowR 0 50 2 (qdR a b c t).length ((qdR a b c t).flatMap ptCells) x).P w' ∧ (∀ d, (rowR 0 50 2 (qdR a b c t).length ((qdR a b c t).flatMap ptCells) x).F d → w.heap.size ≤ d) ∧ (rowR 0 50 2 (qdR a b c t).length ((qdR a b c t).flatMap ptCells) x).B = 0 ∧ True
theorem qdp_nil {a b c : Pn} {t : Int} {v : Value} {w w' : World} (h : ¬ qdC a b c t = 0) (ho : Over w w') : QdP a b c t v (.returned (.tuple #[.slice none 0 0, v])) w w' := by
 have e : qdR a b c t = [] := if_neg h
 refine ⟨(none, 0), by rw [e]; rfl, ho, ?_, ?_, rfl, trivial⟩
 ·rw [e]; exact World.ownsRow_nil _ _ _ _
 ·rw [e]; intro b hb; exact absurd (show Value.ownBlock (.slice none 0 0) = some b from hb) (by simp [Value.ownBlock])
theorem qdp_ok {a b c : Pn} {t : Int} {v : Value} {w w' : World} {m : Nat} {x : Option Addr × Nat} (h : qdC a b c t = 0) (hm : qdN a b c t = m) (ho : Over w w') (hP : (rowR 0 50 2 (m + 1) ((qdTo a b c m (m + 1)).flatMap ptCells) x).P w') (hF : ∀ d, (rowR 0 50 2 (m + 1) ((qdTo a b c m (m + 1)).flatMap ptCells) x).F d → w.heap.size ≤ d) : QdP a b c t v (.returned (.tuple #[.slice x.1 (m + 1) x.2, v])) w w' := by
 have e : qdR a b c t = qdTo a b c m (m + 1) := by rw [qdR, if_pos h, hm]
 have el : (qdR a b c t).length = m + 1 := by rw [e, qdTo_len]
 exact ⟨x, by rw [el], ho, by rw [el, e]; exact hP, by rw [el, e]; exact hF, rfl, trivial⟩
theorem flattenQuad_any (a b c : Pn) (t : Int) (w : World) (ha : bd2 a) (hb : bd2 b) (hc : bd2 c) (ht : 1 ≤ t ∧ t ≤ 262144) : Calls Tryd.prog 69 #[quV a b c, .int .i64 t] w fun e w' => QdP a b c t (.int .i64 (qdC a b c t)) e w w' := by
 have hz := siz_bd (sec_bd ha hb hc)
 refine walk_from (m := 39) (Tryd.func69) rfl rfl (Nat.le_of_ble_eq_true rfl) ?_
 refine at_seq ?_
 refine at_region ?_
 refine at_op rfl ?_
 refine op_box rfl rfl (rfl) rfl (by decide) (fun b1 => ?_)
 refine at_rsE (by simp only [ya,yb,yc,yd,Value.cells,ye]; rfl) ?_
 refine at_q rfl rfl (by decide) (qt_assign rfl rfl) ?_
 refine at_q rfl rfl (by decide) (qt_assign rfl rfl) ?_
 refine at_end ?_
 refine at_seq ?_
 refine at_region ?_
 refine at_q rfl rfl (by decide) (qt_loadS rfl rfl tys_impl_Quad rfl (rdAll (k := 0) rfl)) ?_
 refine at_op rfl ?_
 refine op_call ok_impl_Quad_points (X := Nat) (v := fun g => .slice (some ⟨g, 0, none⟩) 3 3) (r := fun g => Res.cel g 50 ([a, b, c].flatMap ptCells)) (H := fun _ => True) rfl rfl rfl (by decide) (fun w1 hs => qpoints_any a b c w1) ?_
 rintro g -
 refine at_rsE (by simp only [ya,yb,yc,yd,Value.cells,ye]; rfl) ?_
 refine at_op rfl ?_
 refine op_buildSlice rfl rfl (bsl_sl_int64_3_0_1_2 rfl rfl rfl) rfl (by decide) (fun b2 => ?_)
 refine at_rsE (by simp only [ya,yb,yc,yd,Value.cells,ye]; rfl) ?_
 refine at_q rfl rfl (by decide) (qt_call ok_impl_combine rfl rfl (fun w1 hs => q_sec a b c ▸ combine_any _ 3 3 [a, b, c] _ 3 3 [1, -2, 1] w1 (ptsCel [a, b, c] (k := 1) rfl rfl w1 hs) (numsCel [1, -2, 1] (k := 2) rfl rfl w1 hs) (by decide) (by decide) (q_bd ha hb hc) (by decide))) ?_
 refine at_q rfl rfl (by decide) (qt_call ok_impl_sizeOf rfl rfl (fun w1 hs => sizeOf_any (secP a b c) w1 (sec_bd ha hb hc))) ?_
 refine at_q rfl rfl (by decide) (qt_move rfl rfl) ?_
 refine at_q rfl rfl (by decide) (qt_call ok_impl_levelFor rfl rfl (fun w1 hs => levelFor_any (sizQ (secP a b c)) t w1 (by omega) ht)) ?_
 refine at_q rfl rfl (by decide) (qt_move rfl rfl) ?_
 refine at_q rfl rfl (by decide) (qt_extract rfl rfl rfl) ?_
 refine at_q rfl rfl (by decide) (qt_extract rfl rfl rfl) ?_
 refine at_q rfl rfl (by decide) (qt_assign rfl rfl) ?_
 refine at_q rfl rfl (by decide) (qt_assign rfl rfl) ?_
 refine at_end ?_
 refine at_seq ?_
 refine at_seq ?_
 refine at_region ?_
 refine at_q rfl rfl (by decide) (qt_move rfl rfl) ?_
 refine at_q rfl rfl (by decide) (qt_neq rfl rfl rfl) ?_
 refine at_end ?_
 refine at_cond rfl (fun c1 => ?_) (fun c1 => ?_)
 ·try simp only [za,zb,zc,zd,ze,zf,Bool.not_true,Bool.not_false,zg,zh,ne_eq,zi,zj] at c1
  refine at_seq ?_
  refine at_region ?_
  refine at_q rfl rfl (by decide) (qt_move rfl rfl) ?_
  refine at_q rfl rfl (by decide) (qt_assign rfl rfl) ?_
  refine at_q rfl rfl (by decide) (qt_assign rfl rfl) ?_
  refine at_end ?_
  refine at_retc ?_
  refine then_ret ?_
  refine at_ret2 rfl (.tmp rfl) (.tmp rfl) ?_
  intro w' hs
  exact qdp_nil (by simpa [qdC] using c1) hs.fin
 ·try simp only [za,zb,zc,zd,ze,zf,Bool.not_true,Bool.not_false,zg,zh,ne_eq,zi,zj] at c1
  have h0 : qdC a b c t = 0 := by simpa [qdC] using c1
  obtain ⟨l, hl, hv⟩ := qd_zero (a := a) (b := b) (c := c) (t := t)
  obtain ⟨e1, e2, e3⟩ := two_pow hl
  obtain ⟨m, hm⟩ : ∃ m, m = 2 ^ l := ⟨_, rfl⟩
  have hN : qdN a b c t = m := by rw [qdN, hv, hm]; rfl
  have hv' : lvV (sizQ (secP a b c)) t = l := hv
  rw [hv']
  rw [← hm] at e1 e2 e3
  refine at_skip ?_
  refine norm_then ?_
  refine at_seq ?_
  refine at_region ?_
  refine at_q rfl rfl (by decide) (qt_move rfl rfl) ?_
  refine at_q rfl rfl (by decide) ((qt_shlI rfl rfl rfl (by omega) (by omega) (by rw [e1]; omega) (by rw [e1]; omega)).as (congrArg _ e1)) ?_
  refine at_q rfl rfl (by decide) (qt_assign rfl rfl) ?_
  refine at_end ?_
  refine at_seq ?_
  refine at_region ?_
  refine at_q rfl rfl (by decide) (qt_assign rfl rfl) ?_
  refine at_row0 (T := 50) (s := 2) ?_
  refine at_rsE (by simp only [ya,yb,yc,yd,Value.cells,ye]; rfl) ?_
  refine at_end ?_
  refine at_seq ?_
  refine at_seq ?_
  refine at_region ?_
  refine at_q rfl rfl (by decide) (qt_assign rfl rfl) ?_
  refine at_end ?_
  refine at_block ?_
  refine at_loopc (X := Nat × Option Addr × Nat) (fun x => x.1 ≤ m + 1) (fun x => m + 1 - x.1) (fun x => [(9, .slice x.2.1 x.1 x.2.2), (10, .int .i64 (x.1 : Int))]) (C := [(2, _), (4, _), (5, _), (8, _)]) ⟨rfl, rfl, rfl, rfl, trivial⟩ (fun x => [.cel b1 52 (quCs a b c), .cel g 50 ([a, b, c].flatMap ptCells), .cel b2 2 [.int .i64 1, .int .i64 (-2), .int .i64 1], rowR (Bs.N ⟨w, []⟩) 50 2 x.1 ((qdTo a b c m x.1).flatMap ptCells) x.2]) (0, none, 0) (Nat.zero_le _) ⟨rfl, rfl, rfl, rfl, rfl, rfl, trivial⟩ (fun _ h => h) ?_
  intro ⟨k, rA, rc⟩ hx L hL1
  refine at_envE (by simp only [ya,yb]; rfl) ?_
  refine at_rsE (by first | (dsimp only; done) | (dsimp only; rfl) | rfl) ?_
  have hk : k ≤ m + 1 := hx
  refine at_seq ?_
  refine at_seq ?_
  refine at_region ?_
  refine at_q rfl rfl (by decide) (qt_move rfl rfl) ?_
  refine at_q rfl rfl (by decide) (qt_move rfl rfl) ?_
  refine at_q rfl rfl (by decide) (qt_leq rfl rfl rfl) ?_
  refine at_end ?_
  refine at_cond rfl (fun c2 => ?_) (fun c2 => ?_)
  ·try simp only [za,zb,zc,zd,ze,zf,Bool.not_true,Bool.not_false,zg,zh,ne_eq,zi,zj] at c2
   refine at_skip ?_
   refine norm_then ?_
   refine at_seq ?_
   refine at_block ?_
   refine at_region ?_
   refine at_q rfl rfl (by decide) (qt_move rfl rfl) ?_
   refine at_q rfl rfl (by decide) (qt_loadS rfl rfl tys_impl_Quad rfl (rdAll (k := 0) rfl)) ?_
   refine at_q rfl rfl (by decide) (qt_move rfl rfl) ?_
   refine at_q rfl rfl (by decide) (qt_move rfl rfl) ?_
   refine at_q rfl rfl (by decide) (qt_call ok_impl_quadAt rfl rfl (fun w1 hs => quadAt_any a b c (k : Int) (m : Int) w1 ha hb hc (by omega) (by omega) (by omega) (by omega))) ?_
   refine at_op rfl ?_
   refine op_buildSlice rfl rfl (bsl_sl_impl_Pt_1_0 rfl) rfl (by decide) (fun b3 => ?_)
   refine at_rsE (by simp only [ya,yb,yc,yd,Value.cells,ye]; rfl) ?_
   refine at_op rfl ?_
   refine op_appendR (k := 3) rfl tyl_sl_impl_Pt tyz_impl_Pt (by decide) rfl (by decide) rfl rfl rfl (fun w' hs => src_cel hs (k := 4) rfl rfl) (by simp [Value.oneCell']) (by unfold maxLen; omega) (by omega) (Nat.le_refl _) (fun r1 => ?_)
   refine at_rsE (by simp only [ya,yb,yc,yd,Value.cells,ye]; rfl) ?_
   refine at_q rfl rfl (by decide) (qt_assign rfl rfl) ?_
   refine at_nil ?_
   refine norm_block ?_
   refine norm_then ?_
   refine at_region ?_
   refine at_q rfl rfl (by decide) (qt_move rfl rfl) ?_
   refine at_q rfl rfl (by decide) (qt_add rfl rfl rfl (by omega) (by omega)) ?_
   refine at_q rfl rfl (by decide) (qt_assign rfl rfl) ?_
   refine at_end ?_
   exact at_againc hL1 ((k + 1, r1)) ((show k + 1 ≤ m + 1 by omega)) (by simp only; omega) ⟨rfl, vi (by omega), rfl, rfl, rfl, rfl, trivial⟩ (fun _ h => h.upto ⟨rfl, rfl, rfl, by rw [qdTo_step, List.flatMap_append]; rfl, trivial⟩)
  ·try simp only [za,zb,zc,zd,ze,zf,Bool.not_true,Bool.not_false,zg,zh,ne_eq,zi,zj] at c2
   have hkm : k = m + 1 := (by omega)
   subst hkm
   refine at_exit ?_
   refine pass_then (fun h => by cases h) ?_
   refine pass_then (fun h => by cases h) ?_
   refine pass_hit ?_
   refine norm_then ?_
   refine at_seq ?_
   refine at_region ?_
   refine at_q rfl rfl (by decide) (qt_move rfl rfl) ?_
   refine at_q rfl rfl (by decide) (qt_assign rfl rfl) ?_
   refine at_q rfl rfl (by decide) (qt_assign rfl rfl) ?_
   refine at_end ?_
   refine at_retc ?_
   refine at_ret2 rfl (.tmp rfl) (.tmp rfl) ?_
   intro w' hs
   exact h0 ▸ qdp_ok (x := (rA, rc)) h0 hN hs.fin (row_low (hs.all 3 _ rfl).1 (Nat.zero_le _)) (fun b hb => ((hs.all 3 _ rfl).2.1 b hb).elim id (fun h => by cases h))
/-! ### The reference -/
def QuAt (w : World) (b o : Nat) (p q r : Pn) : Prop := b < w.heap.size ∧ ∀ j v, (quCs p q r)[j]? = some v → w.cell? ⟨b, o + j, none⟩ = some v
section
variable {w : World} {Rs : List Res} {b o : Nat} {p q r : Pn}
theorem QuAt.one (h : QuAt w b o p q r) (j : Nat) {off : Nat} {v : Value} (hj : (quCs p q r)[j]? = some v) (he : off = o + j) : ∀ w', St ⟨w, []⟩ Rs w' → w'.cell? ⟨b, off, none⟩ = some v := fun w' hs => he ▸ rdOld (h.2 j v hj) h.1 w' hs
theorem QuAt.over {w' : World} (h : QuAt w b o p q r) (ho : Over w w') : QuAt w' b o p q r := ⟨Nat.lt_of_lt_of_le h.1 ho.size, fun j v hj => ((ocell ho).1 b _ h.1).trans (h.2 j v hj)⟩
end
end Go.Proofs.YtjhaakollekjeaaDoor
