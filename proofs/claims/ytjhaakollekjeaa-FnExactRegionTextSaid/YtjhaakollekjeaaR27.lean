import Derived.Test.YtjhaakollekjeaaR26
namespace Go.Proofs.Ytjhaakollekjeaa
open Go Go.RowKit
set_option linter.unusedVariables false
set_option linter.unusedSimpArgs false
set_option maxRecDepth 100000
set_option maxHeartbeats 4000000
set_option linter.unusedVariables false

theorem law_RegionText (A : Option Addr) (n c : Nat) (rs : List Ring_) (w : World) (h : Rings w A n rs) (hm : (n : Int) ≤ 9223372036854775807) :
  Calls Try.prog 3 #[regV A n c] w fun e w' => e = .returned (.bool true) ∧ Over w w' := by
 have hl := h.1
 have hz : (total rs : Int) ≤ 1048576 → szV 1048576 (total rs) = 1048576 - total rs := szV_small
 have hz2 : ¬ (total rs : Int) ≤ 1048576 → szV 1048576 (total rs) = -1 := szV_big
 refine walk_from (m := 27) (Try.func3) rfl rfl (Nat.le_of_ble_eq_true rfl) ?_
 refine at_seq ?_
 refine at_region ?_
 refine at_op rfl ?_
 refine op_box rfl rfl (rfl) rfl (by decide) (fun b1 => ?_)
 refine at_rsE (by simp only [ya,yb,yc,yd,Value.cells,ye]; rfl) ?_
 refine at_q rfl rfl (by decide) (qt_assign rfl rfl) ?_
 refine at_end ?_
 refine at_seq ?_
 refine at_region ?_
 refine at_q rfl rfl (by decide) (qt_assign rfl rfl) ?_
 refine at_end ?_
 refine at_seq ?_
 refine at_region ?_
 refine at_q rfl rfl (by decide) (qt_loadS rfl rfl tys_laws_Region rfl (rdAll (k := 0) rfl)) ?_
 refine at_q rfl rfl (by decide) (qt_move rfl rfl) ?_
 refine at_q rfl rfl (by decide) (qt_call ok_laws_szRegion rfl rfl (fun w1 hs => szRegion_any A n c rs 1048576 w1 (h.over hs.fin) (by omega) (by omega) hm)) ?_
 refine at_q rfl rfl (by decide) (qt_assign rfl rfl) ?_
 refine at_end ?_
 refine at_seq ?_
 refine at_seq ?_
 refine at_region ?_
 refine at_q rfl rfl (by decide) (qt_move rfl rfl) ?_
 refine at_q rfl rfl (by decide) (qt_lss rfl rfl rfl) ?_
 refine at_end ?_
 refine at_cond rfl (fun c1 => ?_) (fun c1 => ?_)
 ·try simp only [za,zb,zc,zd,ze,zf,Bool.not_true,Bool.not_false,zg,zh,ne_eq,zi,zj] at c1
  refine at_seq ?_
  refine at_region ?_
  refine at_q rfl rfl (by decide) (qt_assign rfl rfl) ?_
  refine at_end ?_
  refine at_retc ?_
  refine then_ret ?_
  refine at_ret1 rfl (.tmp rfl) ?_
  intro w' hs
  exact ⟨rfl, hs.fin⟩
 ·try simp only [za,zb,zc,zd,ze,zf,Bool.not_true,Bool.not_false,zg,zh,ne_eq,zi,zj] at c1
  have ht : (total rs : Int) ≤ 1048576 := Decidable.byContradiction fun ht => by have := hz2 ht; omega
  clear hz hz2 hm
  refine at_skip ?_
  refine norm_then ?_
  refine at_seq ?_
  refine at_region ?_
  refine at_q rfl rfl (by decide) (qt_loadS rfl rfl tys_laws_Region rfl (rdAll (k := 0) rfl)) ?_
  refine at_op rfl ?_
  refine op_call ok_laws_toRegion (v := regX n) (r := regR n rs) (H := fun _ => True) rfl rfl rfl (by decide) (fun w1 hs => newReg (toRegion_any A n c rs w1 (h.over hs.fin) ht)) ?_
  rintro ⟨rg1, rg2, rg3⟩ -
  refine at_rsE (by simp only [ya,yb,yc,yd,Value.cells,ye]; rfl) ?_
  refine at_q rfl rfl (by decide) (qt_call ok_spec_RegionText rfl rfl (fun w1 hs => specRegionText_any _ n n rs w1 (regRings (k := 1) rfl hl ht w1 hs) (Int.le_trans ht (by decide)))) ?_
  refine at_q rfl rfl (by decide) (qt_assign rfl rfl) ?_
  refine at_end ?_
  refine at_seq ?_
  refine at_region ?_
  refine at_q rfl rfl (by decide) (qt_loadS rfl rfl tys_laws_Region rfl (rdAll (k := 0) rfl)) ?_
  refine at_op rfl ?_
  refine op_call ok_laws_toRegion (v := regX n) (r := regR n rs) (H := fun _ => True) rfl rfl rfl (by decide) (fun w1 hs => newReg (toRegion_any A n c rs w1 (h.over hs.fin) ht)) ?_
  rintro ⟨rg1, rg2, rg3⟩ -
  refine at_rsE (by simp only [ya,yb,yc,yd,Value.cells,ye]; rfl) ?_
  refine at_op rfl ?_
  refine op_alloc rfl tyz_impl_Region rfl (by decide) (fun b2 => ?_)
  refine at_rsE (by simp only [ya,yb,yc,yd,Value.cells,ye]; rfl) ?_
  refine at_op rfl ?_
  refine op_storeAll' (k := 3) rfl rfl rfl rfl (rfl) (by rfl) tyz_impl_Region.szx rfl rfl rfl ?_
  refine at_rsE (by simp only [ya,yb,yc,yd,Value.cells,ye]; rfl) ?_
  refine at_end ?_
  refine at_seq ?_
  refine at_region ?_
  refine at_q rfl rfl (by decide) (qt_loadS rfl rfl tys_impl_Region rfl (rdAll (k := 3) rfl)) ?_
  refine at_q rfl rfl (by decide) (qt_call ok_impl_RegionText rfl rfl (fun w1 hs => implRegionText_any _ n n rs w1 (regRings (k := 2) rfl hl ht w1 hs) (Int.le_trans ht (by decide)))) ?_
  refine at_q rfl rfl (by decide) (qt_assign rfl rfl) ?_
  refine at_end ?_
  refine at_seq ?_
  refine at_seq ?_
  refine at_region ?_
  refine at_q rfl rfl (by decide) (qt_move rfl rfl) ?_
  refine at_q rfl rfl (by decide) (qt_move rfl rfl) ?_
  refine at_q rfl rfl (by decide) (qt_neqStr rfl rfl rfl) ?_
  refine at_end ?_
  refine at_no rfl (neqStr_self _) ?_
  refine at_skip ?_
  refine norm_then ?_
  refine at_seq ?_
  refine at_seq ?_
  refine dg_start mixed rfl ?_
  refine dg_phase 5 ?_
  refine dg_q (i := 0) rfl (by kernel_rfl) (by kernel_rfl) (by kernel_rfl) [] (by kernel_rfl) (fun _ _ _ h => h) rfl rfl (by decide) (fun _ h => h.upto ⟨rfl, rfl, rfl, rfl, trivial⟩) (qt_loadS rfl rfl tys_impl_Region rfl (rdAll (k := 3) rfl)) ?_
  refine dg_q (i := 1) rfl (by kernel_rfl) (by kernel_rfl) (by kernel_rfl) [] (by kernel_rfl) (fun _ _ _ h => h) rfl rfl (by decide) (fun _ h => h.upto ⟨rfl, rfl, rfl, rfl, trivial⟩) (qt_loadS rfl rfl tys_laws_Region rfl (rdAll (k := 0) rfl)) ?_
  refine dg_one (i := 2) rfl (by decide) (by kernel_rfl) rfl ?_
  refine op_call ok_laws_toRegion (v := regX n) (r := regR n rs) (H := fun _ => True) rfl rfl rfl (by decide) (fun w1 hs => newReg (toRegion_any A n c rs w1 (h.over hs.fin) ht)) ?_
  rintro ⟨rg1, rg2, rg3⟩ -
  refine at_rsE (by simp only [ya,yb,yc,yd,Value.cells,ye]; rfl) ?_
  refine dr_more (fun _ h => h.upto ⟨rfl, rfl, rfl, rfl, trivial⟩) ?_
  refine dg_q (i := 3) rfl (by kernel_rfl) (by kernel_rfl) (by kernel_rfl) [] (by kernel_rfl) (fun _ _ _ h => h) rfl rfl (by decide) (fun _ h => h.upto ⟨rfl, rfl, rfl, rfl, rfl, trivial⟩) (qt_call ok_laws_eqRegion rfl rfl (fun w1 hs => eqRegion_same _ _ n n n rs w1 (regRings (k := 2) rfl hl ht w1 hs) (regRings (k := 4) rfl hl ht w1 hs) ht)) ?_
  refine dg_q (i := 4) rfl (by kernel_rfl) (by kernel_rfl) (by kernel_rfl) [] (by kernel_rfl) (fun _ _ _ h => h) rfl rfl (by decide) (fun _ h => h.upto ⟨rfl, rfl, rfl, rfl, rfl, trivial⟩) (qt_not rfl rfl) ?_
  refine dg_done (by kernel_rfl) ?_
  refine norm_then ?_
  refine at_no rfl (rfl) ?_
  refine at_skip ?_
  refine norm_then ?_
  refine at_seq ?_
  refine at_region ?_
  refine at_q rfl rfl (by decide) (qt_assign rfl rfl) ?_
  refine at_end ?_
  refine at_retc ?_
  refine at_ret1 rfl (.tmp rfl) ?_
  intro w' hs
  exact ⟨rfl, hs.fin⟩
end Go.Proofs.Ytjhaakollekjeaa
