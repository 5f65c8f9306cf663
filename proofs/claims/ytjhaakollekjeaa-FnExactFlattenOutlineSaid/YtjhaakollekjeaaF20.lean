import Derived.Test.YtjhaakollekjeaaF19
namespace Go.Proofs.Ytjhaakollekjeaa
open Go Go.RowKit
set_option linter.unusedVariables false
set_option linter.unusedSimpArgs false
set_option maxRecDepth 100000
set_option maxHeartbeats 4000000
set_option linter.unusedVariables false
set_option linter.unusedSimpArgs false
theorem many0K (b : Nat) : ¬ (Res.many []).F b := fun ⟨r, h, _⟩ => by cases h
theorem many_nilK (w : World) : (Res.many []).P w := ⟨fun r h => (by cases h), List.Pairwise.nil⟩
theorem posF3 (a : Nat) : decide ((1 : Int) + 3 * (a : Int) < 0) = false := decide_eq_false (by omega)
theorem szK_eq (L : List Pk) : ∀ k, szK L k = sumK (L.map (·.l)) k
 | 0 => rfl
 | k + 1 => by rw [szK, szK_eq L k]; rfl
theorem law_FlattenOutline (A0 : Option Addr) (n0 c0_ : Nat) (ls0 : List (List Kn)) (x1 : Int) (w : World) (h0 : Loops w A0 n0 ls0) (hm0 : (n0 : Int) ≤ 9223372036854775807) :
  Calls Try.prog 4 #[outV A0 n0 c0_, .int .i64 x1] w fun e w' => e = .returned (.bool true) ∧ Over w w' := by
 have hl0 := h0.1
 subst hl0
 have hsm := foR_small ls0 x1
 have hst := hsm.total
 have hss := hsm.sum rfl
 refine walk_from (m := 101) (Try.func4) rfl rfl (Nat.le_of_ble_eq_true rfl) ?_
 refine at_seq ?_
 refine at_region ?_
 refine at_op rfl ?_
 refine op_box rfl rfl (rfl) rfl (by decide) (fun b1 => ?_)
 refine at_rsE (by simp only [ya,yb,yc,yd,Value.cells,ye]; rfl) ?_
 refine at_q rfl rfl (by decide) (qt_assign rfl rfl) ?_
 refine at_end ?_
 refine at_seq ?_
 refine at_region ?_
 refine at_q rfl rfl (by decide) (qt_assign rfl rfl) ?_
 refine at_end ?_
 refine at_seq ?_
 refine at_region ?_
 refine at_q rfl rfl (by decide) (qt_loadS rfl rfl tys_laws_Outline rfl (rdAll (k := 0) rfl)) ?_
 refine at_q rfl rfl (by decide) (qt_move rfl rfl) ?_
 refine at_q rfl rfl (by decide) (qt_call ok_laws_szOutline rfl rfl (fun w1 hs => szOutline_any A0 ls0.length c0_ ls0 1048576 w1 (h0.over hs.fin) (by omega) (by omega) hm0)) ?_
 refine at_q rfl rfl (by decide) (qt_assign rfl rfl) ?_
 refine at_end ?_
 refine at_seq ?_
 refine at_seq ?_
 refine at_region ?_
 refine at_q rfl rfl (by decide) (qt_move rfl rfl) ?_
 refine at_q rfl rfl (by decide) (qt_lss rfl rfl rfl) ?_
 refine at_end ?_
 refine at_cond rfl (fun c1 => ?_) (fun c1 => ?_)
 ·try simp only [za,zb,zc,zd,ze,zf,Bool.not_true,Bool.not_false,zg,zh,ne_eq,zi,zj] at c1
  refine at_seq ?_
  refine at_region ?_
  refine at_q rfl rfl (by decide) (qt_assign rfl rfl) ?_
  refine at_end ?_
  refine at_retc ?_
  refine then_ret ?_
  refine at_ret1 rfl (.tmp rfl) ?_
  intro w' hs
  exact ⟨rfl, hs.fin⟩
 ·try simp only [za,zb,zc,zd,ze,zf,Bool.not_true,Bool.not_false,zg,zh,ne_eq,zi,zj] at c1
  obtain ⟨ht0, et0⟩ := szV_okk c1
  rw [et0]
  have hn0 : (ls0.length : Int) ≤ 1048576 := (by unfold totK at ht0; omega)
  have hK : ls0.length + sumK ls0 ls0.length ≤ 1048576 := (by unfold totK at ht0; omega)
  clear et0
  refine at_skip ?_
  refine norm_then ?_
  refine at_seq ?_
  refine at_region ?_
  refine at_q rfl rfl (by decide) (qt_loadS rfl rfl tys_laws_Outline rfl (rdAll (k := 0) rfl)) ?_
  refine at_op rfl ?_
  refine op_call ok_laws_toOutline (X := Nat × List Pk) (v := fun x => outV (some ⟨x.1, 0, none⟩) ls0.length ls0.length) (r := fun x => olR x) (H := fun x => x.2.map (·.l) = ls0) rfl rfl rfl (by decide) (fun w1 hs => toOutline_any A0 ls0.length c0_ ls0 w1 (h0.over hs.fin) ht0) ?_
  rintro ⟨g5_1, L5⟩ e5
  refine at_rsE (by simp only [ya,yb,yc,yd,Value.cells,ye]; rfl) ?_
  refine at_q rfl rfl (by decide) (qt_move rfl rfl) ?_
  refine at_op rfl ?_
  refine op_call ok_spec_FlattenOutline (X := (Option Addr × Nat) × Nat × Nat) (v := fun x => .tuple #[regV x.1.1 _ x.1.2, .int .i64 _]) (r := fun x => gegR _ _ x.2.1 x.2.2 x.1.1) (H := fun _ => True) rfl rfl rfl (by decide) (fun w1 hs => gegCode (specFlattenOutline_any _ ls0.length ls0 x1 w1 (olLoops (k := 1) rfl e5 rfl ht0 w1 hs) (by omega))) ?_
  rintro ⟨⟨A5_3, c5_3_⟩, lo5_3, hi5_3⟩ -
  refine at_rsE (by simp only [ya,yb,yc,yd,Value.cells,ye]; rfl) ?_
  refine at_q rfl rfl (by decide) (qt_move rfl rfl) ?_
  refine at_q rfl rfl (by decide) (qt_extract rfl rfl rfl) ?_
  refine at_q rfl rfl (by decide) (qt_extract rfl rfl rfl) ?_
  refine at_op rfl ?_
  refine op_alloc rfl tyz_impl_Region rfl (by decide) (fun b2 => ?_)
  refine at_rsE (by simp only [ya,yb,yc,yd,Value.cells,ye]; rfl) ?_
  refine at_op rfl ?_
  refine op_storeAll' (k := 3) rfl rfl rfl rfl (rfl) (by rfl) tyz_impl_Region.szx rfl rfl rfl ?_
  refine at_rsE (by simp only [ya,yb,yc,yd,Value.cells,ye]; rfl) ?_
  refine at_q rfl rfl (by decide) (qt_assign rfl rfl) ?_
  refine at_end ?_
  refine at_seq ?_
  refine at_region ?_
  refine at_q rfl rfl (by decide) (qt_loadS rfl rfl tys_laws_Outline rfl (rdAll (k := 0) rfl)) ?_
  refine at_op rfl ?_
  refine op_call ok_laws_toOutline (X := Nat × List Pk) (v := fun x => outV (some ⟨x.1, 0, none⟩) ls0.length ls0.length) (r := fun x => olR x) (H := fun x => x.2.map (·.l) = ls0) rfl rfl rfl (by decide) (fun w1 hs => toOutline_any A0 ls0.length c0_ ls0 w1 (h0.over hs.fin) ht0) ?_
  rintro ⟨g6_1, L6⟩ e6
  refine at_rsE (by simp only [ya,yb,yc,yd,Value.cells,ye]; rfl) ?_
  refine at_op rfl ?_
  refine op_alloc rfl tyz_impl_Outline rfl (by decide) (fun b3 => ?_)
  refine at_rsE (by simp only [ya,yb,yc,yd,Value.cells,ye]; rfl) ?_
  refine at_op rfl ?_
  refine op_storeAll' (k := 5) rfl rfl rfl rfl (rfl) (by rfl) tyz_impl_Outline.szx rfl rfl rfl ?_
  refine at_rsE (by simp only [ya,yb,yc,yd,Value.cells,ye]; rfl) ?_
  refine at_end ?_
  refine at_seq ?_
  refine at_region ?_
  refine at_q rfl rfl (by decide) (qt_loadS rfl rfl tys_impl_Outline rfl (rdAll (k := 5) rfl)) ?_
  refine at_q rfl rfl (by decide) (qt_move rfl rfl) ?_
  refine at_op rfl ?_
  refine op_call ok_impl_FlattenOutline (X := (Option Addr × Nat) × Nat × Nat) (v := fun x => .tuple #[regV x.1.1 _ x.1.2, .int .i64 _]) (r := fun x => gegR _ _ x.2.1 x.2.2 x.1.1) (H := fun _ => True) rfl rfl rfl (by decide) (fun w1 hs => gegCode (FlattenOutline_any _ ls0.length ls0 x1 w1 (olLoops (k := 4) rfl e6 rfl ht0 w1 hs) (by omega))) ?_
  rintro ⟨⟨A7_2, c7_2_⟩, lo7_2, hi7_2⟩ -
  refine at_rsE (by simp only [ya,yb,yc,yd,Value.cells,ye]; rfl) ?_
  refine at_q rfl rfl (by decide) (qt_move rfl rfl) ?_
  refine at_q rfl rfl (by decide) (qt_extract rfl rfl rfl) ?_
  refine at_q rfl rfl (by decide) (qt_extract rfl rfl rfl) ?_
  refine at_op rfl ?_
  refine op_alloc rfl tyz_impl_Region rfl (by decide) (fun b4 => ?_)
  refine at_rsE (by simp only [ya,yb,yc,yd,Value.cells,ye]; rfl) ?_
  refine at_op rfl ?_
  refine op_storeAll' (k := 7) rfl rfl rfl rfl (rfl) (by rfl) tyz_impl_Region.szx rfl rfl rfl ?_
  refine at_rsE (by simp only [ya,yb,yc,yd,Value.cells,ye]; rfl) ?_
  refine at_q rfl rfl (by decide) (qt_assign rfl rfl) ?_
  refine at_end ?_
  refine at_seq ?_
  refine at_seq ?_
  refine at_region ?_
  refine at_q rfl rfl (by decide) (qt_loadS rfl rfl tys_impl_Region rfl (rdAll (k := 7) rfl)) ?_
  refine at_q rfl rfl (by decide) (qt_loadS rfl rfl tys_impl_Region rfl (rdAll (k := 3) rfl)) ?_
  refine at_q rfl rfl (by decide) (qt_call ok_laws_eqRegion rfl rfl (fun w1 hs => eqRegion_same _ _ _ _ _ (foR ls0 x1) w1 (gegRings (k := 6) rfl w1 hs) (gegRings (k := 2) rfl w1 hs) hst)) ?_
  refine at_q rfl rfl (by decide) (qt_not rfl rfl) ?_
  refine at_q rfl rfl (by decide) (qt_move rfl rfl) ?_
  refine at_as 40 (.bool false) rfl (by rw [notTrue]) ?_
  refine at_on rfl rfl rfl rfl ?_
  refine op_q rfl (by decide) (qt_move rfl rfl) ?_
  refine at_on rfl rfl rfl rfl ?_
  refine op_q rfl (by decide) (qt_move rfl rfl) ?_
  refine at_on rfl rfl rfl rfl ?_
  refine op_q rfl (by decide) (qt_neq rfl rfl rfl) ?_
  refine at_q rfl rfl (by decide) (qt_pickF rfl rfl rfl) ?_
  refine at_end ?_
  refine at_no rfl (neSelf _) ?_
  refine at_skip ?_
  refine norm_then ?_
  refine at_seq ?_
  refine at_seq ?_
  refine dg_start mixed rfl ?_
  refine dg_phase 5 ?_
  refine dg_q (i := 0) rfl (by kernel_rfl) (by kernel_rfl) (by kernel_rfl) [] (by kernel_rfl) (fun _ _ _ h => h) rfl rfl (by decide) (fun _ h => h.upto ⟨rfl, rfl, rfl, rfl, rfl, rfl, rfl, rfl, trivial⟩) (qt_loadS rfl rfl tys_impl_Outline rfl (rdAll (k := 5) rfl)) ?_
  refine dg_q (i := 1) rfl (by kernel_rfl) (by kernel_rfl) (by kernel_rfl) [] (by kernel_rfl) (fun _ _ _ h => h) rfl rfl (by decide) (fun _ h => h.upto ⟨rfl, rfl, rfl, rfl, rfl, rfl, rfl, rfl, trivial⟩) (qt_loadS rfl rfl tys_laws_Outline rfl (rdAll (k := 0) rfl)) ?_
  refine dg_one (i := 2) rfl (by decide) (by kernel_rfl) rfl ?_
  refine op_call ok_laws_toOutline (X := Nat × List Pk) (v := fun x => outV (some ⟨x.1, 0, none⟩) ls0.length ls0.length) (r := fun x => olR x) (H := fun x => x.2.map (·.l) = ls0) rfl rfl rfl (by decide) (fun w1 hs => toOutline_any A0 ls0.length c0_ ls0 w1 (h0.over hs.fin) ht0) ?_
  rintro ⟨g10_2, L10⟩ e10
  refine at_rsE (by simp only [ya,yb,yc,yd,Value.cells,ye]; rfl) ?_
  refine dr_more (fun _ h => h.upto ⟨rfl, rfl, rfl, rfl, rfl, rfl, rfl, rfl, trivial⟩) ?_
  refine dg_q (i := 3) rfl (by kernel_rfl) (by kernel_rfl) (by kernel_rfl) [] (by kernel_rfl) (fun _ _ _ h => h) rfl rfl (by decide) (fun _ h => h.upto ⟨rfl, rfl, rfl, rfl, rfl, rfl, rfl, rfl, rfl, trivial⟩) (qt_call ok_laws_eqOutline rfl rfl (fun w1 hs => eqOutline_same _ _ _ _ _ ls0 w1 (olLoops (k := 4) rfl e6 rfl ht0 w1 hs) (olLoops (k := 8) rfl e10 rfl ht0 w1 hs) (by omega))) ?_
  refine dg_q (i := 4) rfl (by kernel_rfl) (by kernel_rfl) (by kernel_rfl) [] (by kernel_rfl) (fun _ _ _ h => h) rfl rfl (by decide) (fun _ h => h.upto ⟨rfl, rfl, rfl, rfl, rfl, rfl, rfl, rfl, rfl, trivial⟩) (qt_not rfl rfl) ?_
  refine dg_done (by kernel_rfl) ?_
  refine norm_then ?_
  refine at_no rfl (rfl) ?_
  refine at_skip ?_
  refine norm_then ?_
  refine at_seq ?_
  refine at_region ?_
  refine at_q rfl rfl (by decide) (qt_assign rfl rfl) ?_
  refine at_end ?_
  refine at_seq ?_
  refine at_region ?_
  refine at_q rfl rfl (by decide) (qt_loadS rfl rfl tys_impl_Outline rfl (rdAll (k := 5) rfl)) ?_
  refine at_q rfl rfl (by decide) (qt_move rfl rfl) ?_
  refine at_op rfl ?_
  refine op_callw (k := 4) (r' := .many []) ok_laws_markOutline rfl rfl rfl (by decide) rfl (fun w1 hs => (markOutline_any (g6_1, L6) ls0.length ls0.length 1 w1 (wk_of (hs.all 4 _ rfl).1).1 (by rw [← e6, List.length_map]) (by omega) (by rw [szK_eq, e6]; omega) (by rw [szK_eq, e6]; omega)).mono (by rintro e w2 ⟨rfl, hw, hp⟩; exact ⟨rfl, hw.mono fun b hb => ((wk_of (hs.all 4 _ rfl).1).2 b).1 hb, many_nilK _⟩)) (fun b hb => absurd hb (many0K b)) rfl ?_
  refine at_rsE (by simp only [ya,yb,yc,yd,Value.cells,ye]; rfl) ?_
  refine at_q rfl rfl (by decide) (qt_assign rfl rfl) ?_
  refine at_end ?_
  refine at_seq ?_
  refine at_seq ?_
  refine at_region ?_
  refine at_q rfl rfl (by decide) (qt_move rfl rfl) ?_
  refine at_q rfl rfl (by decide) (qt_lss rfl rfl rfl) ?_
  refine at_q rfl rfl (by decide) (qt_move rfl rfl) ?_
  refine at_as 55 (.bool false) rfl (by rw [(posF3 _)]) ?_
  refine at_on rfl rfl rfl rfl ?_
  refine op_q rfl (by decide) (qt_loadS rfl rfl tys_impl_Region rfl (rdAll (k := 7) rfl)) ?_
  refine at_on rfl rfl rfl rfl ?_
  refine op_q rfl (by decide) (qt_loadS rfl rfl tys_impl_Region rfl (rdAll (k := 3) rfl)) ?_
  refine at_on rfl rfl rfl rfl ?_
  refine op_q rfl (by decide) (qt_call ok_laws_eqRegion rfl rfl (fun w1 hs => eqRegion_same _ _ _ _ _ (foR ls0 x1) w1 (gegRings (k := 6) rfl w1 hs) (gegRings (k := 2) rfl w1 hs) hst)) ?_
  refine at_on rfl rfl rfl rfl ?_
  refine op_q rfl (by decide) (qt_not rfl rfl) ?_
  refine at_q rfl rfl (by decide) (qt_pickF rfl rfl rfl) ?_
  refine at_q rfl rfl (by decide) (qt_move rfl rfl) ?_
  refine at_as 61 (.bool false) rfl (by rw [notTrue]) ?_
  refine at_on rfl rfl rfl rfl ?_
  refine op_q rfl (by decide) (qt_move rfl rfl) ?_
  refine at_on rfl rfl rfl rfl ?_
  refine op_q rfl (by decide) (qt_move rfl rfl) ?_
  refine at_on rfl rfl rfl rfl ?_
  refine op_q rfl (by decide) (qt_neq rfl rfl rfl) ?_
  refine at_q rfl rfl (by decide) (qt_pickF rfl rfl rfl) ?_
  refine at_end ?_
  refine at_no rfl (neSelf _) ?_
  refine at_skip ?_
  refine norm_then ?_
  refine at_seq ?_
  refine at_region ?_
  refine at_q rfl rfl (by decide) (qt_assign rfl rfl) ?_
  refine at_end ?_
  refine at_seq ?_
  refine at_region ?_
  refine at_q rfl rfl (by decide) (qt_loadS rfl rfl tys_impl_Region rfl (rdAll (k := 7) rfl)) ?_
  refine at_q rfl rfl (by decide) (qt_move rfl rfl) ?_
  refine at_op rfl ?_
  refine op_callw (k := 6) (r' := gegR _ (marksR 1 _) _ _ _) ok_laws_markRegion rfl rfl rfl (by decide) rfl (fun w1 hs => markGeg (gegS (k := 6) rfl w1 hs) (gegH (k := 6) rfl w1 hs) hss) (fun _ h => h) rfl ?_
  refine at_rsE (by simp only [ya,yb,yc,yd,Value.cells,ye]; rfl) ?_
  refine at_q rfl rfl (by decide) (qt_assign rfl rfl) ?_
  refine at_end ?_
  refine at_seq ?_
  refine at_region ?_
  refine at_q rfl rfl (by decide) (qt_assign rfl rfl) ?_
  refine at_end ?_
  refine at_seq ?_
  refine at_region ?_
  refine at_q rfl rfl (by decide) (qt_loadS rfl rfl tys_impl_Region rfl (rdAll (k := 7) rfl)) ?_
  refine at_q rfl rfl (by decide) (qt_move rfl rfl) ?_
  refine at_q rfl rfl (by decide) (qt_call ok_laws_heldRegion rfl rfl (fun w1 hs => heldGeg (gegRings (k := 6) rfl w1 hs) hss)) ?_
  refine at_q rfl rfl (by decide) (qt_assign rfl rfl) ?_
  refine at_end ?_
  refine at_seq ?_
  refine at_seq ?_
  refine at_region ?_
  refine at_q rfl rfl (by decide) (qt_move rfl rfl) ?_
  refine at_q rfl rfl (by decide) (qt_lss rfl rfl rfl) ?_
  refine at_end ?_
  refine at_no rfl (posF _) ?_
  refine at_skip ?_
  refine norm_then ?_
  refine at_seq ?_
  refine at_seq ?_
  refine at_region ?_
  refine at_q rfl rfl (by decide) (qt_move rfl rfl) ?_
  refine at_q rfl rfl (by decide) (qt_move rfl rfl) ?_
  refine at_q rfl rfl (by decide) (qt_neq rfl rfl rfl) ?_
  refine at_end ?_
  refine at_no rfl (neSelf _) ?_
  refine at_skip ?_
  refine norm_then ?_
  refine at_seq ?_
  refine at_region ?_
  refine at_q rfl rfl (by decide) (qt_loadS rfl rfl tys_laws_Outline rfl (rdAll (k := 0) rfl)) ?_
  refine at_op rfl ?_
  refine op_call ok_laws_toOutline (X := Nat × List Pk) (v := fun x => outV (some ⟨x.1, 0, none⟩) ls0.length ls0.length) (r := fun x => olR x) (H := fun x => x.2.map (·.l) = ls0) rfl rfl rfl (by decide) (fun w1 hs => toOutline_any A0 ls0.length c0_ ls0 w1 (h0.over hs.fin) ht0) ?_
  rintro ⟨g24_1, L24⟩ e24
  refine at_rsE (by simp only [ya,yb,yc,yd,Value.cells,ye]; rfl) ?_
  refine at_q rfl rfl (by decide) (qt_move rfl rfl) ?_
  refine at_op rfl ?_
  refine op_call ok_impl_FlattenOutline (X := (Option Addr × Nat) × Nat × Nat) (v := fun x => .tuple #[regV x.1.1 _ x.1.2, .int .i64 _]) (r := fun x => gegR _ _ x.2.1 x.2.2 x.1.1) (H := fun _ => True) rfl rfl rfl (by decide) (fun w1 hs => gegCode (FlattenOutline_any _ ls0.length ls0 x1 w1 (olLoops (k := 9) rfl e24 rfl ht0 w1 hs) (by omega))) ?_
  rintro ⟨⟨A24_3, c24_3_⟩, lo24_3, hi24_3⟩ -
  refine at_rsE (by simp only [ya,yb,yc,yd,Value.cells,ye]; rfl) ?_
  refine at_q rfl rfl (by decide) (qt_move rfl rfl) ?_
  refine at_q rfl rfl (by decide) (qt_extract rfl rfl rfl) ?_
  refine at_q rfl rfl (by decide) (qt_extract rfl rfl rfl) ?_
  refine at_op rfl ?_
  refine op_alloc rfl tyz_impl_Region rfl (by decide) (fun b5 => ?_)
  refine at_rsE (by simp only [ya,yb,yc,yd,Value.cells,ye]; rfl) ?_
  refine at_op rfl ?_
  refine op_storeAll' (k := 11) rfl rfl rfl rfl (rfl) (by rfl) tyz_impl_Region.szx rfl rfl rfl ?_
  refine at_rsE (by simp only [ya,yb,yc,yd,Value.cells,ye]; rfl) ?_
  refine at_q rfl rfl (by decide) (qt_assign rfl rfl) ?_
  refine at_end ?_
  refine at_seq ?_
  refine at_seq ?_
  refine at_region ?_
  refine at_q rfl rfl (by decide) (qt_loadS rfl rfl tys_impl_Region rfl (rdAll (k := 11) rfl)) ?_
  refine at_q rfl rfl (by decide) (qt_loadS rfl rfl tys_impl_Region rfl (rdAll (k := 3) rfl)) ?_
  refine at_q rfl rfl (by decide) (qt_call ok_laws_eqRegion rfl rfl (fun w1 hs => eqRegion_same _ _ _ _ _ (foR ls0 x1) w1 (gegRings (k := 10) rfl w1 hs) (gegRings (k := 2) rfl w1 hs) hst)) ?_
  refine at_q rfl rfl (by decide) (qt_not rfl rfl) ?_
  refine at_q rfl rfl (by decide) (qt_move rfl rfl) ?_
  refine at_as 88 (.bool false) rfl (by rw [notTrue]) ?_
  refine at_on rfl rfl rfl rfl ?_
  refine op_q rfl (by decide) (qt_move rfl rfl) ?_
  refine at_on rfl rfl rfl rfl ?_
  refine op_q rfl (by decide) (qt_move rfl rfl) ?_
  refine at_on rfl rfl rfl rfl ?_
  refine op_q rfl (by decide) (qt_neq rfl rfl rfl) ?_
  refine at_q rfl rfl (by decide) (qt_pickF rfl rfl rfl) ?_
  refine at_end ?_
  refine at_no rfl (neSelf _) ?_
  refine at_skip ?_
  refine norm_then ?_
  refine at_seq ?_
  refine at_region ?_
  refine at_q rfl rfl (by decide) (qt_assign rfl rfl) ?_
  refine at_end ?_
  refine at_seq ?_
  refine at_region ?_
  refine at_q rfl rfl (by decide) (qt_loadS rfl rfl tys_impl_Region rfl (rdAll (k := 7) rfl)) ?_
  refine at_q rfl rfl (by decide) (qt_move rfl rfl) ?_
  refine at_q rfl rfl (by decide) (qt_call ok_laws_heldRegion rfl rfl (fun w1 hs => heldGeg (gegRings (k := 6) rfl w1 hs) hss)) ?_
  refine at_q rfl rfl (by decide) (qt_assign rfl rfl) ?_
  refine at_end ?_
  refine at_seq ?_
  refine at_seq ?_
  refine at_region ?_
  refine at_q rfl rfl (by decide) (qt_move rfl rfl) ?_
  refine at_q rfl rfl (by decide) (qt_lss rfl rfl rfl) ?_
  refine at_end ?_
  refine at_no rfl (posF _) ?_
  refine at_skip ?_
  refine norm_then ?_
  refine at_seq ?_
  refine at_seq ?_
  refine at_region ?_
  refine at_q rfl rfl (by decide) (qt_move rfl rfl) ?_
  refine at_q rfl rfl (by decide) (qt_move rfl rfl) ?_
  refine at_q rfl rfl (by decide) (qt_neq rfl rfl rfl) ?_
  refine at_end ?_
  refine at_no rfl (neSelf _) ?_
  refine at_skip ?_
  refine norm_then ?_
  refine at_seq ?_
  refine at_region ?_
  refine at_q rfl rfl (by decide) (qt_assign rfl rfl) ?_
  refine at_end ?_
  refine at_retc ?_
  refine at_ret1 rfl (.tmp rfl) ?_
  intro w' hs
  exact ⟨rfl, hs.fin⟩
end Go.Proofs.Ytjhaakollekjeaa
