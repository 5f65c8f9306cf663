import Derived.Test.YtjhaakollekjeaaDoorR21
namespace Go.Proofs.YtjhaakollekjeaaDoor
open Go Go.RowKit
set_option linter.unusedVariables false
set_option linter.unusedSimpArgs false
set_option maxRecDepth 100000
set_option maxHeartbeats 4000000
set_option linter.unusedVariables false

theorem rg_small (l : List UInt8) : smallR ((txRg l).getD []) := by
 unfold txRg
 split
 ·cases h : allO txPts (splL 10 l).dropLast with
  | none => exact smallR.nil
  | some rs =>
   show smallR ((if regionB rs = true then some rs else none).getD [])
   split
   ·rename_i k; exact smallR.of k
   ·exact smallR.nil
 ·exact smallR.nil
theorem law_ReadRegion (l : List UInt8) (w : World) (hM : MaxL w) (hm : (l.length : Int) ≤ 9223372036854775807) :
  Calls Tryd.prog 3 #[sV l] w fun e w' => e = .returned (.bool true) ∧ Over w w' := by
 obtain ⟨rs, hrs⟩ : ∃ rs, rs = (txRg l).getD [] := ⟨_, rfl⟩
 obtain ⟨bb, hbb⟩ : ∃ bb, bb = (txRg l).isSome := ⟨_, rfl⟩
 have hsm : smallR rs := hrs ▸ rg_small l
 have hst := hsm.total
 have hss := hsm.sum rfl
 have hS : ∀ w1, l.length ≤ 1048576 → Calls Tryd.prog 5 #[sV l] w1 fun e w' => ∃ A c, e = .returned (.tuple #[regV A rs.length c, .bool bb]) ∧ OwnG w1.heap.size w'.heap.size w' A rs.length rs ∧ Over w1 w' := fun w1 hl => by
  rw [hrs, hbb]; exact specReadRegion_any l w1 hl
 have hI : ∀ w1, MaxL w1 → l.length ≤ 1048576 → Calls Tryd.prog 6 #[sV l] w1 fun e w' => ∃ A c, e = .returned (.tuple #[regV A rs.length c, .bool bb]) ∧ OwnG w1.heap.size w'.heap.size w' A rs.length rs ∧ Over w1 w' := fun w1 hM hl => by
  rw [hrs, hbb, ← tx_same]; exact ReadRegion_any l w1 hM hl
 refine walk_from (m := 66) (Tryd.func3) rfl rfl (Nat.le_of_ble_eq_true rfl) ?_
 refine at_seq ?_
 refine at_region ?_
 refine at_q rfl rfl (by decide) (qt_assign rfl rfl) ?_
 refine at_end ?_
 refine at_seq ?_
 refine at_seq ?_
 refine at_region ?_
 refine at_q rfl rfl (by decide) (qt_move rfl rfl) ?_
 refine at_q rfl rfl (by decide) (qt_lenL rfl rfl Tryd.underlying9) ?_
 refine at_q rfl rfl (by decide) (qt_gtr rfl rfl rfl) ?_
 refine at_end ?_
 refine at_cond rfl (fun c1 => ?_) (fun c1 => ?_)
 ·try simp only [za,zb,zc,zd,ze,zf,Bool.not_true,Bool.not_false,zg,zh,ne_eq,zi,zj] at c1
  refine at_seq ?_
  refine at_region ?_
  refine at_q rfl rfl (by decide) (qt_assign rfl rfl) ?_
  refine at_end ?_
  refine at_retc ?_
  refine then_ret ?_
  refine at_ret1 rfl (.tmp rfl) ?_
  intro w' hs
  exact ⟨rfl, hs.fin⟩
 ·try simp only [za,zb,zc,zd,ze,zf,Bool.not_true,Bool.not_false,zg,zh,ne_eq,zi,zj] at c1
  have hl : l.length ≤ 1048576 := (by omega)
  refine at_skip ?_
  refine norm_then ?_
  refine at_seq ?_
  refine at_region ?_
  refine at_q rfl rfl (by decide) (qt_move rfl rfl) ?_
  refine at_op rfl ?_
  refine op_call ok_spec_ReadRegion (X := (Option Addr × Nat) × Nat × Nat) (v := fun x => .tuple #[regV x.1.1 rs.length x.1.2, .bool bb]) (r := fun x => gegR rs.length rs x.2.1 x.2.2 x.1.1) (H := fun _ => True) rfl rfl rfl (by decide) (fun w1 hs => gegNew (V := fun A c => .tuple #[regV A rs.length c, .bool bb]) (hS w1 hl)) ?_
  rintro ⟨⟨wA, wc⟩, wlo, whi⟩ -
  refine at_rsE (by simp only [ya,yb,yc,yd,Value.cells,ye]; rfl) ?_
  refine at_q rfl rfl (by decide) (qt_move rfl rfl) ?_
  refine at_q rfl rfl (by decide) (qt_extract rfl rfl rfl) ?_
  refine at_q rfl rfl (by decide) (qt_extract rfl rfl rfl) ?_
  refine at_op rfl ?_
  refine op_alloc rfl tyz_impl_Region rfl (by decide) (fun b1 => ?_)
  refine at_rsE (by simp only [ya,yb,yc,yd,Value.cells,ye]; rfl) ?_
  refine at_op rfl ?_
  refine op_storeAll' (k := 1) rfl rfl rfl rfl (rfl) (by rfl) tyz_impl_Region.szx rfl rfl rfl ?_
  refine at_rsE (by simp only [ya,yb,yc,yd,Value.cells,ye]; rfl) ?_
  refine at_q rfl rfl (by decide) (qt_assign rfl rfl) ?_
  refine at_end ?_
  refine at_seq ?_
  refine at_region ?_
  refine at_q rfl rfl (by decide) (qt_move rfl rfl) ?_
  refine at_op rfl ?_
  refine op_call ok_impl_ReadRegion (X := (Option Addr × Nat) × Nat × Nat) (v := fun x => .tuple #[regV x.1.1 rs.length x.1.2, .bool bb]) (r := fun x => gegR rs.length rs x.2.1 x.2.2 x.1.1) (H := fun _ => True) rfl rfl rfl (by decide) (fun w1 hs => gegNew (V := fun A c => .tuple #[regV A rs.length c, .bool bb]) (hI w1 (hM.over hs.fin) hl)) ?_
  rintro ⟨⟨gA, gc⟩, glo, ghi⟩ -
  refine at_rsE (by simp only [ya,yb,yc,yd,Value.cells,ye]; rfl) ?_
  refine at_q rfl rfl (by decide) (qt_move rfl rfl) ?_
  refine at_q rfl rfl (by decide) (qt_extract rfl rfl rfl) ?_
  refine at_q rfl rfl (by decide) (qt_extract rfl rfl rfl) ?_
  refine at_op rfl ?_
  refine op_alloc rfl tyz_impl_Region rfl (by decide) (fun b2 => ?_)
  refine at_rsE (by simp only [ya,yb,yc,yd,Value.cells,ye]; rfl) ?_
  refine at_op rfl ?_
  refine op_storeAll' (k := 3) rfl rfl rfl rfl (rfl) (by rfl) tyz_impl_Region.szx rfl rfl rfl ?_
  refine at_rsE (by simp only [ya,yb,yc,yd,Value.cells,ye]; rfl) ?_
  refine at_q rfl rfl (by decide) (qt_assign rfl rfl) ?_
  refine at_end ?_
  refine at_seq ?_
  refine at_seq ?_
  refine at_region ?_
  refine at_q rfl rfl (by decide) (qt_loadS rfl rfl tys_impl_Region rfl (rdAll (k := 3) rfl)) ?_
  refine at_q rfl rfl (by decide) (qt_loadS rfl rfl tys_impl_Region rfl (rdAll (k := 1) rfl)) ?_
  refine at_q rfl rfl (by decide) (qt_call ok_laws_eqRegion rfl rfl (fun w1 hs => eqRegion_same _ _ _ _ _ rs w1 (gegRings (k := 2) rfl w1 hs) (gegRings (k := 0) rfl w1 hs) hst)) ?_
  refine at_q rfl rfl (by decide) (qt_not rfl rfl) ?_
  refine at_q rfl rfl (by decide) (qt_move rfl rfl) ?_
  refine at_as 28 (.bool false) rfl (by rw [notTrue]) ?_
  refine at_on rfl rfl rfl rfl ?_
  refine op_q rfl (by decide) (qt_move rfl rfl) ?_
  refine at_on rfl rfl rfl rfl ?_
  refine op_q rfl (by decide) (qt_move rfl rfl) ?_
  refine at_on rfl rfl rfl rfl ?_
  refine op_q rfl (by decide) (qt_neqB tyb_bool rfl rfl rfl) ?_
  refine at_q rfl rfl (by decide) (qt_pickF rfl rfl rfl) ?_
  refine at_end ?_
  refine at_no rfl (neSelfB _) ?_
  refine at_skip ?_
  refine norm_then ?_
  refine at_seq ?_
  refine at_region ?_
  refine at_q rfl rfl (by decide) (qt_assign rfl rfl) ?_
  refine at_end ?_
  refine at_seq ?_
  refine at_region ?_
  refine at_q rfl rfl (by decide) (qt_loadS rfl rfl tys_impl_Region rfl (rdAll (k := 3) rfl)) ?_
  refine at_q rfl rfl (by decide) (qt_move rfl rfl) ?_
  refine at_op rfl ?_
  refine op_callw (k := 2) (r' := gegR _ (marksR 1 rs) _ _ _) ok_laws_markRegion rfl rfl rfl (by decide) rfl (fun w1 hs => markGeg (gegS (k := 2) rfl w1 hs) (gegH (k := 2) rfl w1 hs) hss) (fun _ h => h) rfl ?_
  refine at_rsE (by simp only [ya,yb,yc,yd,Value.cells,ye]; rfl) ?_
  refine at_q rfl rfl (by decide) (qt_assign rfl rfl) ?_
  refine at_end ?_
  refine at_seq ?_
  refine at_region ?_
  refine at_q rfl rfl (by decide) (qt_assign rfl rfl) ?_
  refine at_end ?_
  refine at_seq ?_
  refine at_region ?_
  refine at_q rfl rfl (by decide) (qt_loadS rfl rfl tys_impl_Region rfl (rdAll (k := 3) rfl)) ?_
  refine at_q rfl rfl (by decide) (qt_move rfl rfl) ?_
  refine at_q rfl rfl (by decide) (qt_call ok_laws_heldRegion rfl rfl (fun w1 hs => heldGeg (gegRings (k := 2) rfl w1 hs) hss)) ?_
  refine at_q rfl rfl (by decide) (qt_assign rfl rfl) ?_
  refine at_end ?_
  refine at_seq ?_
  refine at_seq ?_
  refine at_region ?_
  refine at_q rfl rfl (by decide) (qt_move rfl rfl) ?_
  refine at_q rfl rfl (by decide) (qt_lss rfl rfl rfl) ?_
  refine at_end ?_
  refine at_no rfl (posF _) ?_
  refine at_skip ?_
  refine norm_then ?_
  refine at_seq ?_
  refine at_seq ?_
  refine at_region ?_
  refine at_q rfl rfl (by decide) (qt_move rfl rfl) ?_
  refine at_q rfl rfl (by decide) (qt_move rfl rfl) ?_
  refine at_q rfl rfl (by decide) (qt_neq rfl rfl rfl) ?_
  refine at_end ?_
  refine at_no rfl (neSelf _) ?_
  refine at_skip ?_
  refine norm_then ?_
  refine at_seq ?_
  refine at_region ?_
  refine at_q rfl rfl (by decide) (qt_move rfl rfl) ?_
  refine at_op rfl ?_
  refine op_call ok_impl_ReadRegion (X := (Option Addr × Nat) × Nat × Nat) (v := fun x => .tuple #[regV x.1.1 rs.length x.1.2, .bool bb]) (r := fun x => gegR rs.length rs x.2.1 x.2.2 x.1.1) (H := fun _ => True) rfl rfl rfl (by decide) (fun w1 hs => gegNew (V := fun A c => .tuple #[regV A rs.length c, .bool bb]) (hI w1 (hM.over hs.fin) hl)) ?_
  rintro ⟨⟨hA, hc⟩, hlo, hhi⟩ -
  refine at_rsE (by simp only [ya,yb,yc,yd,Value.cells,ye]; rfl) ?_
  refine at_q rfl rfl (by decide) (qt_move rfl rfl) ?_
  refine at_q rfl rfl (by decide) (qt_extract rfl rfl rfl) ?_
  refine at_q rfl rfl (by decide) (qt_extract rfl rfl rfl) ?_
  refine at_op rfl ?_
  refine op_alloc rfl tyz_impl_Region rfl (by decide) (fun b3 => ?_)
  refine at_rsE (by simp only [ya,yb,yc,yd,Value.cells,ye]; rfl) ?_
  refine at_op rfl ?_
  refine op_storeAll' (k := 5) rfl rfl rfl rfl (rfl) (by rfl) tyz_impl_Region.szx rfl rfl rfl ?_
  refine at_rsE (by simp only [ya,yb,yc,yd,Value.cells,ye]; rfl) ?_
  refine at_q rfl rfl (by decide) (qt_assign rfl rfl) ?_
  refine at_end ?_
  refine at_seq ?_
  refine at_seq ?_
  refine at_region ?_
  refine at_q rfl rfl (by decide) (qt_loadS rfl rfl tys_impl_Region rfl (rdAll (k := 5) rfl)) ?_
  refine at_q rfl rfl (by decide) (qt_loadS rfl rfl tys_impl_Region rfl (rdAll (k := 1) rfl)) ?_
  refine at_q rfl rfl (by decide) (qt_call ok_laws_eqRegion rfl rfl (fun w1 hs => eqRegion_same _ _ _ _ _ rs w1 (gegRings (k := 4) rfl w1 hs) (gegRings (k := 0) rfl w1 hs) hst)) ?_
  refine at_q rfl rfl (by decide) (qt_not rfl rfl) ?_
  refine at_q rfl rfl (by decide) (qt_move rfl rfl) ?_
  refine at_as 53 (.bool false) rfl (by rw [notTrue]) ?_
  refine at_on rfl rfl rfl rfl ?_
  refine op_q rfl (by decide) (qt_move rfl rfl) ?_
  refine at_on rfl rfl rfl rfl ?_
  refine op_q rfl (by decide) (qt_move rfl rfl) ?_
  refine at_on rfl rfl rfl rfl ?_
  refine op_q rfl (by decide) (qt_neqB tyb_bool rfl rfl rfl) ?_
  refine at_q rfl rfl (by decide) (qt_pickF rfl rfl rfl) ?_
  refine at_end ?_
  refine at_no rfl (neSelfB _) ?_
  refine at_skip ?_
  refine norm_then ?_
  refine at_seq ?_
  refine at_region ?_
  refine at_q rfl rfl (by decide) (qt_assign rfl rfl) ?_
  refine at_end ?_
  refine at_seq ?_
  refine at_region ?_
  refine at_q rfl rfl (by decide) (qt_loadS rfl rfl tys_impl_Region rfl (rdAll (k := 3) rfl)) ?_
  refine at_q rfl rfl (by decide) (qt_move rfl rfl) ?_
  refine at_q rfl rfl (by decide) (qt_call ok_laws_heldRegion rfl rfl (fun w1 hs => heldGeg (gegRings (k := 2) rfl w1 hs) hss)) ?_
  refine at_q rfl rfl (by decide) (qt_assign rfl rfl) ?_
  refine at_end ?_
  refine at_seq ?_
  refine at_seq ?_
  refine at_region ?_
  refine at_q rfl rfl (by decide) (qt_move rfl rfl) ?_
  refine at_q rfl rfl (by decide) (qt_lss rfl rfl rfl) ?_
  refine at_end ?_
  refine at_no rfl (posF _) ?_
  refine at_skip ?_
  refine norm_then ?_
  refine at_seq ?_
  refine at_seq ?_
  refine at_region ?_
  refine at_q rfl rfl (by decide) (qt_move rfl rfl) ?_
  refine at_q rfl rfl (by decide) (qt_move rfl rfl) ?_
  refine at_q rfl rfl (by decide) (qt_neq rfl rfl rfl) ?_
  refine at_end ?_
  refine at_no rfl (neSelf _) ?_
  refine at_skip ?_
  refine norm_then ?_
  refine at_seq ?_
  refine at_region ?_
  refine at_q rfl rfl (by decide) (qt_assign rfl rfl) ?_
  refine at_end ?_
  refine at_retc ?_
  refine at_ret1 rfl (.tmp rfl) ?_
  intro w' hs
  exact ⟨rfl, hs.fin⟩
end Go.Proofs.YtjhaakollekjeaaDoor
