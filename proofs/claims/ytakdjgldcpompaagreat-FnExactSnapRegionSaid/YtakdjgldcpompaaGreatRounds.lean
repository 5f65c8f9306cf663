/- SameRegion at any size; the program's rounds. -/
import Derived.Test.YtakdjgldcpompaaGreatOrd
import Derived.Test.YtakdjgldcpompaaGreatEnds
import Derived.Test.YtakdjgldcpompaaGreatSd2
import Derived.Test.YtakdjgldcpompaaGreatSnapB
namespace Go.Proofs.YtakdjgldcpompaaGreat
open Go Go.RowKit
set_option linter.unusedVariables false
set_option linter.unusedSimpArgs false
set_option maxRecDepth 100000
set_option maxHeartbeats 4000000
set_option linter.unusedVariables false
set_option linter.unusedSimpArgs false

theorem list_eq {xs ys : List Pn} (hl : xs.length = ys.length) (h : ∀ j, j < xs.length → pt xs j = pt ys j) : xs = ys := by
 apply List.ext_getElem hl
 intro i h1 h2
 rw [pt_at h1, pt_at h2]
 exact h i h1
theorem Equal_big (A B : Option Addr) (n m c d : Nat) (xs ys : List Pn) (w : World) (h : Pts w A n xs) (h' : Pts w B m ys) (hn : (n : Int) ≤ 9223372036854775807) :
  Calls Tryz.prog 72 #[.slice A n c, .slice B m d] w fun e w' => e = .returned (.bool (decide (xs = ys))) ∧ Over w w' := by
 have hl := h.1
 have hl' := h'.1
 refine walk_from (m := 26) (Tryz.func72) rfl rfl (Nat.le_of_ble_eq_true rfl) ?_
 refine at_seq ?_
 refine at_region ?_
 refine at_q rfl rfl (by decide) (qt_assign rfl rfl) ?_
 refine at_end ?_
 refine at_seq ?_
 refine at_seq ?_
 refine at_region ?_
 refine at_q rfl rfl (by decide) (qt_move rfl rfl) ?_
 refine at_q rfl rfl (by decide) (qt_len rfl rfl tyl_sl_impl_Pt) ?_
 refine at_q rfl rfl (by decide) (qt_move rfl rfl) ?_
 refine at_q rfl rfl (by decide) (qt_len rfl rfl tyl_sl_impl_Pt) ?_
 refine at_q rfl rfl (by decide) (qt_neq rfl rfl rfl) ?_
 refine at_end ?_
 refine at_cond rfl (fun c1 => ?_) (fun c1 => ?_)
 ·try simp only [za,zb,zc,zd,ze,zf,Bool.not_true,Bool.not_false,zg,zh,ne_eq,zi,zj] at c1
  refine at_seq ?_
  refine at_region ?_
  refine at_q rfl rfl (by decide) (qt_assign rfl rfl) ?_
  refine at_end ?_
  refine at_retc ?_
  refine then_ret ?_
  refine at_ret1 rfl (.tmp rfl) ?_
  intro w' hs
  exact ⟨retB (decide_eq_false (fun e => by subst e; omega)).symm, hs.fin⟩
 ·try simp only [za,zb,zc,zd,ze,zf,Bool.not_true,Bool.not_false,zg,zh,ne_eq,zi,zj] at c1
  have hnm : n = m := (by omega)
  subst hnm
  refine at_skip ?_
  refine norm_then ?_
  refine at_seq ?_
  refine at_seq ?_
  refine at_region ?_
  refine at_q rfl rfl (by decide) (qt_move rfl rfl) ?_
  refine at_q rfl rfl (by decide) (qt_len rfl rfl tyl_sl_impl_Pt) ?_
  refine at_q rfl rfl (by decide) (qt_move rfl rfl) ?_
  refine at_end ?_
  refine at_block ?_
  refine at_loopk (X := Nat) (fun k => k ≤ n ∧ ∀ j, j < k → pt xs j = pt ys j) (fun k => n - k) (fun k => [(13, .int .i64 (k : Int))]) (C := [(0, _), (1, _), (4, _), (12, _)]) ⟨rfl, rfl, rfl, rfl, trivial⟩ 0 (⟨Nat.zero_le _, fun j hj => absurd hj (by omega)⟩) ⟨rfl, rfl, rfl, rfl, rfl, trivial⟩ ?_
  intro k hk L hL1
  refine at_envE (by simp only [ya,yb]; rfl) ?_
  obtain ⟨hk1, hk2⟩ := hk
  refine at_seq ?_
  refine at_region ?_
  refine at_q rfl rfl (by decide) (qt_lss rfl rfl rfl) ?_
  refine at_end ?_
  refine at_seq ?_
  refine at_cond rfl (fun c2 => ?_) (fun c2 => ?_)
  ·try simp only [za,zb,zc,zd,ze,zf,Bool.not_true,Bool.not_false,zg,zh,ne_eq,zi,zj] at c2
   have hlt : k < n := (by omega)
   obtain ⟨eb, eo, rfl, _⟩ := h.2 (by omega)
   obtain ⟨fb, fo, rfl, _⟩ := h'.2 (by omega)
   refine at_skip ?_
   refine norm_then ?_
   refine at_seq ?_
   refine at_block ?_
   refine at_seq ?_
   refine at_region ?_
   refine at_q rfl rfl (by decide) (qt_move rfl rfl) ?_
   refine at_q rfl rfl (by decide) (qt_assign rfl rfl) ?_
   refine at_end ?_
   refine at_seq ?_
   refine dg_start mixed rfl ?_
   refine dg_phase 9 ?_
   refine dg_q (i := 0) rfl (by kernel_rfl) (by kernel_rfl) (by kernel_rfl) [] (by kernel_rfl) (fun _ _ _ h => h) rfl rfl (by decide) (fun _ h => h.upto trivial) (qt_move rfl rfl) ?_
   refine dg_q (i := 1) rfl (by kernel_rfl) (by kernel_rfl) (by kernel_rfl) [] (by kernel_rfl) (fun _ _ _ h => h) rfl rfl (by decide) (fun _ h => h.upto trivial) (qt_move rfl rfl) ?_
   refine dg_q (i := 2) rfl (by kernel_rfl) (by kernel_rfl) (by kernel_rfl) [] (by kernel_rfl) (fun _ _ _ h => h) rfl rfl (by decide) (fun _ h => h.upto trivial) (qt_index rfl rfl rfl tyl_sl_impl_Pt (by omega)) ?_
   refine dg_q (i := 3) rfl (by kernel_rfl) (by kernel_rfl) (by kernel_rfl) [] (by kernel_rfl) (fun _ _ _ h => h) rfl rfl (by decide) (fun _ h => h.upto trivial) (qt_loadS rfl rfl tys_impl_Pt rfl (rdPts (b := eb) (o := eo) h hlt)) ?_
   refine dg_q (i := 4) rfl (by kernel_rfl) (by kernel_rfl) (by kernel_rfl) [] (by kernel_rfl) (fun _ _ _ h => h) rfl rfl (by decide) (fun _ h => h.upto trivial) (qt_move rfl rfl) ?_
   refine dg_q (i := 5) rfl (by kernel_rfl) (by kernel_rfl) (by kernel_rfl) [] (by kernel_rfl) (fun _ _ _ h => h) rfl rfl (by decide) (fun _ h => h.upto trivial) (qt_move rfl rfl) ?_
   refine dg_q (i := 6) rfl (by kernel_rfl) (by kernel_rfl) (by kernel_rfl) [] (by kernel_rfl) (fun _ _ _ h => h) rfl rfl (by decide) (fun _ h => h.upto trivial) (qt_index rfl rfl rfl tyl_sl_impl_Pt (by omega)) ?_
   refine dg_q (i := 7) rfl (by kernel_rfl) (by kernel_rfl) (by kernel_rfl) [] (by kernel_rfl) (fun _ _ _ h => h) rfl rfl (by decide) (fun _ h => h.upto trivial) (qt_loadS rfl rfl tys_impl_Pt rfl (rdPts (b := fb) (o := fo) h' hlt)) ?_
   refine dg_q (i := 8) rfl (by kernel_rfl) (by kernel_rfl) (by kernel_rfl) [] (by kernel_rfl) (fun _ _ _ h => h) rfl rfl (by decide) (fun _ h => h.upto trivial) (qt_neqS_impl_Pt rfl rfl rfl) ?_
   refine dg_done (by kernel_rfl) ?_
   refine norm_then ?_
   refine at_cond rfl (fun c3 => ?_) (fun c3 => ?_)
   ·try simp only [za,zb,zc,zd,ze,zf,Bool.not_true,Bool.not_false,zg,zh,ne_eq,zi,zj] at c3
    refine at_seq ?_
    refine at_region ?_
    refine at_q rfl rfl (by decide) (qt_assign rfl rfl) ?_
    refine at_end ?_
    refine at_retc ?_
    refine pass_ret ?_
    refine then_ret ?_
    refine then_ret ?_
    refine pass_ret ?_
    refine then_ret ?_
    refine at_ret1 rfl (.tmp rfl) ?_
    intro w' hs
    exact ⟨retB (decide_eq_false (fun e => by subst e; simp at c3)).symm, hs.fin⟩
   ·try simp only [za,zb,zc,zd,ze,zf,Bool.not_true,Bool.not_false,zg,zh,ne_eq,zi,zj] at c3
    have he : pt xs k = pt ys k := (by simp at c3; exact Prod.ext c3.1 c3.2)
    refine at_skip ?_
    refine norm_block ?_
    refine norm_then ?_
    refine at_region ?_
    refine at_q rfl rfl (by decide) (qt_add rfl rfl rfl (by omega) (by omega)) ?_
    refine at_q rfl rfl (by decide) (qt_move rfl rfl) ?_
    refine at_end ?_
    exact at_againk hL1 (k + 1) (⟨by omega, fun j hj => by by_cases hjk : j = k; rw [hjk]; exact he; exact hk2 j (by omega)⟩) (by omega) ⟨vi (by omega), rfl, rfl, rfl, rfl, trivial⟩ (fun _ h => h.upto trivial)
  ·try simp only [za,zb,zc,zd,ze,zf,Bool.not_true,Bool.not_false,zg,zh,ne_eq,zi,zj] at c2
   refine at_exit ?_
   refine pass_then (fun h => by cases h) ?_
   refine pass_then (fun h => by cases h) ?_
   refine pass_hit ?_
   refine norm_then ?_
   refine at_seq ?_
   refine at_region ?_
   refine at_q rfl rfl (by decide) (qt_assign rfl rfl) ?_
   refine at_end ?_
   refine at_retc ?_
   refine at_ret1 rfl (.tmp rfl) ?_
   intro w' hs
   exact ⟨retB (decide_eq_true (list_eq (by omega) fun j hj => hk2 j (by omega))).symm, hs.fin⟩
theorem sameRing_big (A B : Option Addr) (n m c d : Nat) (xs ys : List Pn) (w : World) (h : Pts w A n xs) (h' : Pts w B m ys) (hn : (n : Int) ≤ 9223372036854775807) :
  Calls Tryz.prog 71 #[ringV A n c, ringV B m d] w fun e w' => e = .returned (.bool (decide (xs = ys))) ∧ Over w w' := by
 refine walk_from (m := 10) (Tryz.func71) rfl rfl (Nat.le_of_ble_eq_true rfl) ?_
 refine at_seq ?_
 refine at_region ?_
 refine at_op rfl ?_
 refine op_box rfl rfl (rfl) rfl (by decide) (fun b1 => ?_)
 refine at_rsE (by simp only [ya,yb,yc,yd,Value.cells,ye]; rfl) ?_
 refine at_op rfl ?_
 refine op_box rfl rfl (rfl) rfl (by decide) (fun b2 => ?_)
 refine at_rsE (by simp only [ya,yb,yc,yd,Value.cells,ye]; rfl) ?_
 refine at_q rfl rfl (by decide) (qt_assign rfl rfl) ?_
 refine at_end ?_
 refine at_seq ?_
 refine at_region ?_
 refine at_q rfl rfl (by decide) (qt_fieldAddr rfl rfl tyf_impl_Ring_0) ?_
 refine at_q rfl rfl (by decide) (qt_load1 rfl rfl ty1_sl_impl_Pt (rd1 (k := 0) rfl rfl)) ?_
 refine at_q rfl rfl (by decide) (qt_fieldAddr rfl rfl tyf_impl_Ring_0) ?_
 refine at_q rfl rfl (by decide) (qt_load1 rfl rfl ty1_sl_impl_Pt (rd1 (k := 1) rfl rfl)) ?_
 refine at_q rfl rfl (by decide) (qt_call ok_slices_Equal_sl_impl_Pt_impl_Pt rfl rfl (fun w1 hs => Equal_big A B n m c d xs ys w1 (h.over hs.fin) (h'.over hs.fin) hn)) ?_
 refine at_q rfl rfl (by decide) (qt_assign rfl rfl) ?_
 refine at_end ?_
 refine at_retc ?_
 refine at_ret1 rfl (.tmp rfl) ?_
 intro w' hs
 exact ⟨rfl, hs.fin⟩
theorem EqualFunc_big (A B : Option Addr) (n m c d : Nat) (rs ss : List Ring_) (w : World) (h : Rings w A n rs) (h' : Rings w B m ss) (hn : (n : Int) ≤ 9223372036854775807) :
  Calls Tryz.prog 70 #[.slice A n c, .slice B m d, .func (.func 71) #[] #[]] w fun e w' => e = .returned (.bool (decide (rs = ss))) ∧ Over w w' := by
 have hl := h.1
 have hl' := h'.1
 refine walk_from (m := 32) (Tryz.func70) rfl rfl (Nat.le_of_ble_eq_true rfl) ?_
 refine at_seq ?_
 refine at_region ?_
 refine at_q rfl rfl (by decide) (qt_assign rfl rfl) ?_
 refine at_end ?_
 refine at_seq ?_
 refine at_seq ?_
 refine at_region ?_
 refine at_q rfl rfl (by decide) (qt_move rfl rfl) ?_
 refine at_q rfl rfl (by decide) (qt_len rfl rfl tyl_sl_impl_Ring) ?_
 refine at_q rfl rfl (by decide) (qt_move rfl rfl) ?_
 refine at_q rfl rfl (by decide) (qt_len rfl rfl tyl_sl_impl_Ring) ?_
 refine at_q rfl rfl (by decide) (qt_neq rfl rfl rfl) ?_
 refine at_end ?_
 refine at_cond rfl (fun c1 => ?_) (fun c1 => ?_)
 ·try simp only [za,zb,zc,zd,ze,zf,Bool.not_true,Bool.not_false,zg,zh,ne_eq,zi,zj] at c1
  refine at_seq ?_
  refine at_region ?_
  refine at_q rfl rfl (by decide) (qt_assign rfl rfl) ?_
  refine at_end ?_
  refine at_retc ?_
  refine then_ret ?_
  refine at_ret1 rfl (.tmp rfl) ?_
  intro w' hs
  exact ⟨retB (decide_eq_false (fun e => by subst e; omega)).symm, hs.fin⟩
 ·try simp only [za,zb,zc,zd,ze,zf,Bool.not_true,Bool.not_false,zg,zh,ne_eq,zi,zj] at c1
  have hnm : n = m := (by omega)
  subst hnm
  refine at_skip ?_
  refine norm_then ?_
  refine at_seq ?_
  refine at_seq ?_
  refine at_region ?_
  refine at_q rfl rfl (by decide) (qt_move rfl rfl) ?_
  refine at_q rfl rfl (by decide) (qt_len rfl rfl tyl_sl_impl_Ring) ?_
  refine at_q rfl rfl (by decide) (qt_move rfl rfl) ?_
  refine at_end ?_
  refine at_block ?_
  refine at_loopk (X := Nat) (fun k => k ≤ n ∧ ∀ j, j < k → rg rs j = rg ss j) (fun k => n - k) (fun k => [(17, .int .i64 (k : Int))]) (C := [(1, _), (2, _), (6, _), (15, _), (16, _)]) ⟨rfl, rfl, rfl, rfl, rfl, trivial⟩ 0 (⟨Nat.zero_le _, fun j hj => absurd hj (by omega)⟩) ⟨rfl, rfl, rfl, rfl, rfl, rfl, trivial⟩ ?_
  intro k hk L hL1
  refine at_envE (by simp only [ya,yb]; rfl) ?_
  obtain ⟨hk1, hk2⟩ := hk
  refine at_seq ?_
  refine at_region ?_
  refine at_q rfl rfl (by decide) (qt_lss rfl rfl rfl) ?_
  refine at_end ?_
  refine at_seq ?_
  refine at_cond rfl (fun c2 => ?_) (fun c2 => ?_)
  ·try simp only [za,zb,zc,zd,ze,zf,Bool.not_true,Bool.not_false,zg,zh,ne_eq,zi,zj] at c2
   have hlt : k < n := (by omega)
   obtain ⟨eb, eo, Ak, ck, rfl, hbB, hcell, hpts, hmax⟩ := h.at_ hlt
   obtain ⟨fb, fo, Bk, dk, rfl, hbB2, hcell2, hpts2, hmax2⟩ := h'.at_ hlt
   refine at_skip ?_
   refine norm_then ?_
   refine at_seq ?_
   refine at_block ?_
   refine at_seq ?_
   refine at_region ?_
   refine at_q rfl rfl (by decide) (qt_move rfl rfl) ?_
   refine at_q rfl rfl (by decide) (qt_index rfl rfl rfl tyl_sl_impl_Ring (by omega)) ?_
   refine at_q rfl rfl (by decide) (qt_loadS rfl rfl tys_impl_Ring rfl (rdOld1 hcell hbB)) ?_
   refine at_op rfl ?_
   refine op_alloc rfl tyz_impl_Ring rfl (by decide) (fun b1 => ?_)
   refine at_rsE (by simp only [ya,yb,yc,yd,Value.cells,ye]; rfl) ?_
   refine at_q rfl rfl (by decide) (qt_assign rfl rfl) ?_
   refine at_op rfl ?_
   refine op_storeAll' (k := 0) rfl rfl rfl rfl (rfl) (by rfl) tyz_impl_Ring.szx rfl rfl rfl ?_
   refine at_rsE (by simp only [ya,yb,yc,yd,Value.cells,ye]; rfl) ?_
   refine at_end ?_
   refine at_seq ?_
   refine at_region ?_
   refine at_q rfl rfl (by decide) (qt_move rfl rfl) ?_
   refine at_q rfl rfl (by decide) (qt_move rfl rfl) ?_
   refine at_q rfl rfl (by decide) (qt_index rfl rfl rfl tyl_sl_impl_Ring (by omega)) ?_
   refine at_q rfl rfl (by decide) (qt_loadS rfl rfl tys_impl_Ring rfl (rdOld1 hcell2 hbB2)) ?_
   refine at_op rfl ?_
   refine op_alloc rfl tyz_impl_Ring rfl (by decide) (fun b2 => ?_)
   refine at_rsE (by simp only [ya,yb,yc,yd,Value.cells,ye]; rfl) ?_
   refine at_op rfl ?_
   refine op_storeAll' (k := 1) rfl rfl rfl rfl (rfl) (by rfl) tyz_impl_Ring.szx rfl rfl rfl ?_
   refine at_rsE (by simp only [ya,yb,yc,yd,Value.cells,ye]; rfl) ?_
   refine at_end ?_
   refine at_seq ?_
   refine at_region ?_
   refine at_q rfl rfl (by decide) (qt_move rfl rfl) ?_
   refine at_q rfl rfl (by decide) (qt_loadS rfl rfl tys_impl_Ring rfl (rdAll (k := 0) rfl)) ?_
   refine at_q rfl rfl (by decide) (qt_loadS rfl rfl tys_impl_Ring rfl (rdAll (k := 1) rfl)) ?_
   refine at_q rfl rfl (by decide) (qt_callk ok_impl_SameRegion_1 rfl rfl rfl (fun w1 hs => sameRing_big Ak Bk _ _ ck dk (rg rs k) (rg ss k) w1 (hpts.over hs.fin) (hpts2.over hs.fin) hmax)) ?_
   refine at_q rfl rfl (by decide) (qt_not rfl rfl) ?_
   refine at_end ?_
   refine at_cond rfl (fun c3 => ?_) (fun c3 => ?_)
   ·try simp only [za,zb,zc,zd,ze,zf,Bool.not_true,Bool.not_false,zg,zh,ne_eq,zi,zj] at c3
    refine at_seq ?_
    refine at_region ?_
    refine at_q rfl rfl (by decide) (qt_assign rfl rfl) ?_
    refine at_end ?_
    refine at_retc ?_
    refine pass_ret ?_
    refine then_ret ?_
    refine then_ret ?_
    refine pass_ret ?_
    refine then_ret ?_
    refine at_ret1 rfl (.tmp rfl) ?_
    intro w' hs
    exact ⟨retB (decide_eq_false (fun e => by subst e; simp at c3)).symm, hs.fin⟩
   ·try simp only [za,zb,zc,zd,ze,zf,Bool.not_true,Bool.not_false,zg,zh,ne_eq,zi,zj] at c3
    have he : rg rs k = rg ss k := (by simpa using c3)
    refine at_skip ?_
    refine norm_block ?_
    refine norm_then ?_
    refine at_region ?_
    refine at_q rfl rfl (by decide) (qt_add rfl rfl rfl (by omega) (by omega)) ?_
    refine at_q rfl rfl (by decide) (qt_move rfl rfl) ?_
    refine at_end ?_
    exact at_againk hL1 (k + 1) (⟨by omega, fun j hj => by by_cases hjk : j = k; rw [hjk]; exact he; exact hk2 j (by omega)⟩) (by omega) ⟨vi (by omega), rfl, rfl, rfl, rfl, rfl, trivial⟩ (fun _ h => h.upto trivial)
  ·try simp only [za,zb,zc,zd,ze,zf,Bool.not_true,Bool.not_false,zg,zh,ne_eq,zi,zj] at c2
   refine at_exit ?_
   refine pass_then (fun h => by cases h) ?_
   refine pass_then (fun h => by cases h) ?_
   refine pass_hit ?_
   refine norm_then ?_
   refine at_seq ?_
   refine at_region ?_
   refine at_q rfl rfl (by decide) (qt_assign rfl rfl) ?_
   refine at_end ?_
   refine at_retc ?_
   refine at_ret1 rfl (.tmp rfl) ?_
   intro w' hs
   exact ⟨retB (decide_eq_true (rg_ext (by omega) fun j hj => hk2 j (by omega))).symm, hs.fin⟩
theorem SameRegion_big (A B : Option Addr) (n m c d : Nat) (rs ss : List Ring_) (w : World) (h : Rings w A n rs) (h' : Rings w B m ss) (hn : (n : Int) ≤ 9223372036854775807) :
  Calls Tryz.prog 39 #[regV A n c, regV B m d] w fun e w' => e = .returned (.bool (decide (rs = ss))) ∧ Over w w' := by
 refine walk_from (m := 10) (Tryz.func39) rfl rfl (Nat.le_of_ble_eq_true rfl) ?_
 refine at_seq ?_
 refine at_region ?_
 refine at_op rfl ?_
 refine op_box rfl rfl (rfl) rfl (by decide) (fun b1 => ?_)
 refine at_rsE (by simp only [ya,yb,yc,yd,Value.cells,ye]; rfl) ?_
 refine at_op rfl ?_
 refine op_box rfl rfl (rfl) rfl (by decide) (fun b2 => ?_)
 refine at_rsE (by simp only [ya,yb,yc,yd,Value.cells,ye]; rfl) ?_
 refine at_q rfl rfl (by decide) (qt_assign rfl rfl) ?_
 refine at_end ?_
 refine at_seq ?_
 refine at_region ?_
 refine at_q rfl rfl (by decide) (qt_fieldAddr rfl rfl tyf_impl_Region_0) ?_
 refine at_q rfl rfl (by decide) (qt_load1 rfl rfl ty1_sl_impl_Ring (rd1 (k := 0) rfl rfl)) ?_
 refine at_q rfl rfl (by decide) (qt_fieldAddr rfl rfl tyf_impl_Region_0) ?_
 refine at_q rfl rfl (by decide) (qt_load1 rfl rfl ty1_sl_impl_Ring (rd1 (k := 1) rfl rfl)) ?_
 refine at_q rfl rfl (by decide) (qt_call ok_slices_EqualFunc_sl_impl_Ring_sl_impl_Ring_impl_Ring_impl_Ring rfl rfl (fun w1 hs => EqualFunc_big A B n m c d rs ss w1 (h.over hs.fin) (h'.over hs.fin) hn)) ?_
 refine at_q rfl rfl (by decide) (qt_assign rfl rfl) ?_
 refine at_end ?_
 refine at_retc ?_
 refine at_ret1 rfl (.tmp rfl) ?_
 intro w' hs
 exact ⟨rfl, hs.fin⟩
/-- A piece among those made reads as points. -/
theorem pcsPts' {w : World} {l : List Pc} (h : (pcsR l).P w) {e : Pc} (he : e ∈ l) : Pts w e.A e.xs.length e.xs := by
 have h1 := (h.1 e.res (List.mem_map.2 ⟨e, he, rfl⟩)).1
 exact (ptsG h1).pts
/-- A slice of rings, from its row and its pieces. -/
theorem row_rings {w : World} {B T n : Nat} {l : List Pc} {x : Option Addr × Nat} (hr : (rowR B T 1 n (l.map Pc.val) x).P w) (hP : (pcsR l).P w) (hl : l.length = n) (hs : ∀ e ∈ l, e.xs.length ≤ 1099511627776) : Rings w x.1 n (l.map (·.xs)) := by
 have hrow : w.ownsRow B T 1 (.slice x.1 n x.2) n (l.map Pc.val) := hr
 refine ⟨by rw [List.length_map, hl], fun h0 => ?_⟩
 rcases hrow.2 with ⟨_, e⟩ | ⟨g, cap, cur, e, hb, hg, _⟩
 ·omega
 ·injection e with e1 e2 e3
  refine ⟨g, 0, e1, lt_of_some hg, fun k hk => ?_⟩
  have hkl : k < l.length := by omega
  have hm := List.getElem_mem hkl
  rw [rg_map hkl]
  refine ⟨l[k].A, l[k].c, ?_, pcsPts' hP hm, by have := hs _ hm; omega⟩
  have := hrow.cells (g := g) (by show Value.ownBlock (.slice x.1 n x.2) = some g; rw [e1]; rfl) k l[k].val (by rw [List.getElem?_map, List.getElem?_eq_getElem hkl]; rfl)
  rw [add_none] at this
  exact this
abbrev CurX := Bool × (Option Addr × Nat) × List Pc
def curRow (w : World) (n : Nat) (rs : List Ring_) (x : CurX) : Res :=
 if x.1 = true then { F := fun _ => False, P := fun _ => Rings w x.2.1.1 n rs, low := fun _ _ _ h => h.elim, B := 0, dep := fun _ _ h _ _ => h } else rowR (Bs.N ⟨w, []⟩) 61 1 n (x.2.2.map Pc.val) x.2.1
def curPcs (x : CurX) : Res :=
 if x.1 = true then { F := fun _ => False, P := fun _ => True, low := fun _ _ _ h => h.elim, B := 0, dep := fun _ _ h _ _ => h } else pcsR x.2.2
theorem at_cur2 {w : World} {m : Nat} {env : List (Nat × Value)} {Rs : List Res} {K : Act → World → Prop} {A : Option Addr} {n c : Nat} {rs : List Ring_} (h0 : Rings w A n rs) (h : At m env ⟨w, []⟩ (Rs ++ [curRow w n rs (true, (A, c), [])] ++ [curPcs (true, (A, c), [])]) K) : At m env ⟨w, []⟩ Rs K :=
 fun a w1 hf hs => h a w1 hf ((hs.add (r := curRow w n rs (true, (A, c), [])) (Over.refl _) (show Rings w A n rs from h0) (fun b hb => (show False from hb).elim) ⟨Nat.zero_le _, fun _ _ => Nat.zero_le _⟩).add (r := curPcs (true, (A, c), [])) (Over.refl _) (show True from trivial) (fun b hb => (show False from hb).elim) ⟨Nat.zero_le _, fun _ _ => Nat.zero_le _⟩)
theorem cur_rings {w w' : World} {n : Nat} {rs : List Ring_} {x : CurX} (hr : (curRow w n rs x).P w') (hp : (curPcs x).P w') (hO : Over w w') (hx : x.1 = false → x.2.2.map (·.xs) = rs) (hn : rs.length = n) (hsm : ∀ r ∈ rs, r.length ≤ 1099511627776) : Rings w' x.2.1.1 n rs := by
 unfold curRow at hr
 unfold curPcs at hp
 by_cases hf : x.1 = true
 ·rw [if_pos hf] at hr
  exact (show Rings w x.2.1.1 n rs from hr).over hO
 ·rw [if_neg hf] at hr hp
  have e := hx (by simpa using hf)
  have hll : x.2.2.length = n := by have := congrArg List.length e; rw [List.length_map] at this; omega
  have := row_rings hr hp hll (fun d hd => hsm d.xs (e ▸ List.mem_map.2 ⟨d, hd, rfl⟩))
  rwa [e] at this
/-- Where the k-th ring lies. -/
theorem cur_at {w w1 : World} {n k : Nat} {rs : List Ring_} {x : CurX} (hr : (curRow w n rs x).P w1) (hp : (curPcs x).P w1) (hx : x.1 = false → x.2.2.map (·.xs) = rs) (hn : rs.length = n) (hk : k < n) :
  ∃ bb oo, x.2.1.1 = some ⟨bb, oo, none⟩ ∧ ∃ Ak ck, ∀ w', (curRow w n rs x).P w' → (curPcs x).P w' → Over w w' → w'.cell? ⟨bb, oo + k, none⟩ = some (.slice Ak (rg rs k).length ck) ∧ Pts w' Ak (rg rs k).length (rg rs k) := by
 by_cases hf : x.1 = true
 ·have hR : Rings w x.2.1.1 n rs := by unfold curRow at hr; rw [if_pos hf] at hr; exact hr
  obtain ⟨bb, oo, Ak, ck, e, hbB, hcell, hpts, _⟩ := hR.at_ hk
  exact ⟨bb, oo, e, Ak, ck, fun w' _ _ hO => ⟨((ocell hO).1 bb _ hbB).trans hcell, hpts.over hO⟩⟩
 ·have e := hx (by simpa using hf)
  have hll : x.2.2.length = n := by have := congrArg List.length e; rw [List.length_map] at this; omega
  have hkl : k < x.2.2.length := by omega
  have hrow : w1.ownsRow (Bs.N ⟨w, []⟩) 61 1 (.slice x.2.1.1 n x.2.1.2) n (x.2.2.map Pc.val) := by unfold curRow at hr; rw [if_neg hf] at hr; exact hr
  rcases hrow.2 with ⟨_, e0⟩ | ⟨g, cap, cur, e0, hb, hg, _⟩
  ·omega
  ·injection e0 with e1 e2 e3
   have hrg : rg rs k = x.2.2[k].xs := by rw [← e, rg_map hkl]
   refine ⟨g, 0, e1, x.2.2[k].A, x.2.2[k].c, fun w' hr' hp' _ => ?_⟩
   have hrow' : w'.ownsRow (Bs.N ⟨w, []⟩) 61 1 (.slice x.2.1.1 n x.2.1.2) n (x.2.2.map Pc.val) := by unfold curRow at hr'; rw [if_neg hf] at hr'; exact hr'
   have hP' : (pcsR x.2.2).P w' := by unfold curPcs at hp'; rw [if_neg hf] at hp'; exact hp'
   rw [hrg]
   refine ⟨?_, pcsPts' hP' (List.getElem_mem hkl)⟩
   have := hrow'.cells (g := g) (by show Value.ownBlock (.slice x.2.1.1 n x.2.1.2) = some g; rw [e1]; rfl) k x.2.2[k].val (by rw [List.getElem?_map, List.getElem?_eq_getElem hkl]; rfl)
   rw [add_none] at this
   exact this
theorem rdX1' {w0 : Bs} {Rs : List Res} {b o k : Nat} {v : Value} (h : ∀ w', St w0 Rs w' → w'.cell? ⟨b, o + k, none⟩ = some v) : ∀ w', St w0 Rs w' → ∀ q u, [v][q]? = some u → w'.cell? ⟨b, o + k * 1 + q, none⟩ = some u := fun w' hs q u hq => by
 match q, hq with
 | 0, hq => simp at hq; subst hq; rw [Nat.mul_one, Nat.add_zero]; exact h w' hs
theorem snapRounds_any (A : Option Addr) (n c : Nat) (rs : List Ring_) (B : Option Addr) (m d : Nat) (hot : List Pn) (w : World) (h : Rings w A n rs) (hr : regionB rs = true)
  (hh : Pts w B m hot) (hm : m ≤ 1048576) (hmd : m ≤ d) (hok : ∀ p ∈ hot, okB p.1 p.2 = true) (hasc : Asc hot) (hnd : hot.Nodup) (hG : bareG hot rs) :
  Calls Tryz.prog 20 #[regV A n c, .slice B m d] w fun e w' => ∃ A' c', e = .returned (.tuple #[regV A' (stR hot rs).length c', .int .i64 (stN hot rs), .int .i64 (if stOk hot rs = true then 0 else 5)]) ∧ ((A' = A ∧ c' = c ∧ stR hot rs = rs) ∨ OwnG w.heap.size w'.heap.size w' A' (stR hot rs).length (stR hot rs)) ∧ Over w w' := by
 have hl := h.1
 subst hl
 have hhl := hh.1
 refine walk_from (m := 63) (Tryz.func20) rfl rfl (Nat.le_of_ble_eq_true rfl) ?_
 refine at_seq ?_
 refine at_region ?_
 refine at_op rfl ?_
 refine op_box rfl rfl (rfl) rfl (by decide) (fun b1 => ?_)
 refine at_rsE (by simp only [ya,yb,yc,yd,Value.cells,ye]; rfl) ?_
 refine at_op rfl ?_
 refine op_alloc rfl tyz_impl_Region rfl (by decide) (fun b2 => ?_)
 refine at_rsE (by simp only [ya,yb,yc,yd,Value.cells,ye]; rfl) ?_
 refine at_q rfl rfl (by decide) (qt_assign rfl rfl) ?_
 refine at_q rfl rfl (by decide) (qt_assign rfl rfl) ?_
 refine at_end ?_
 refine at_seq ?_
 refine at_region ?_
 refine at_q rfl rfl (by decide) (qt_assign rfl rfl) ?_
 refine at_end ?_
 refine at_cur2 (c := c) h ?_
 refine at_rsE (by simp only [List.nil_append, List.cons_append, List.set_cons_zero, List.set_cons_succ, List.eraseIdx_cons_zero, List.eraseIdx_cons_succ, Value.cells, List.toList_toArray]; rfl) ?_
 refine at_block ?_
 refine at_loopc (X := Nat × List Ring_ × CurX) (fun x => StabI hot rs x.2.1 x.1 ∧ (x.2.2.1 = false → x.2.2.2.2.map (·.xs) = x.2.1) ∧ (x.2.2.1 = true → x.2.1 = rs ∧ x.2.2.2.1 = (A, c))) (fun x => 401 - cnt x.2.1) (fun x => [(7, .int .i64 (x.1 : Int))]) (C := [(1, _), (2, _), (4, _), (5, _), (6, _)]) ⟨rfl, rfl, rfl, rfl, rfl, trivial⟩ (fun x => [.cel b1 28 [.slice x.2.2.2.1.1 x.2.1.length x.2.2.2.1.2], .cel b2 28 [.slice none 0 0], curRow w x.2.1.length x.2.1 x.2.2, curPcs x.2.2]) (0, rs, true, (A, c), []) (⟨StabI.start hr hG, (fun e => by cases e), fun _ => ⟨rfl, rfl⟩⟩) ⟨rfl, rfl, rfl, rfl, rfl, rfl, trivial⟩ (fun _ h => h) ?_
 intro ⟨r, ss, fl, ⟨cA, cc⟩, cl⟩ hx L hL1
 refine at_envE (by simp only [ya,yb]; rfl) ?_
 refine at_rsE (by first | (dsimp only; done) | (dsimp only; rfl) | rfl) ?_
 obtain ⟨hx1, hx2, hx3⟩ : StabI hot rs ss r ∧ (fl = false → cl.map (·.xs) = ss) ∧ (fl = true → ss = rs ∧ (cA, cc) = (A, c)) := hx
 have hr400 := hx1.r_le
 have hs40 := reg_len hx1.reg
 have hsm : ∀ q ∈ ss, q.length ≤ 1099511627776 := (fun q hq => by obtain ⟨i, hi, e⟩ := List.getElem_of_mem hq; have := pos_of_ring (regRing hx1.reg hi); rw [at_r hi] at e; rw [e] at this; omega)
 refine at_seq ?_
 refine at_block ?_
 refine at_seq ?_
 refine at_region ?_
 refine at_op rfl ?_
 refine op_alloc rfl tyz_impl_Region rfl (by decide) (fun b3 => ?_)
 refine at_rsE (by simp only [ya,yb,yc,yd,Value.cells,ye]; rfl) ?_
 refine at_end ?_
 refine at_row0 (T := 61) (s := 1) ?_
 refine at_rsE (by simp only [List.nil_append, List.cons_append, List.set_cons_zero, List.set_cons_succ, List.eraseIdx_cons_zero, List.eraseIdx_cons_succ, Value.cells, List.toList_toArray]; rfl) ?_
 refine at_many0 ?_
 refine at_rsE (by simp only [List.nil_append, List.cons_append, List.set_cons_zero, List.set_cons_succ, List.eraseIdx_cons_zero, List.eraseIdx_cons_succ, Value.cells, List.toList_toArray]; rfl) ?_
 refine at_seq ?_
 refine at_seq ?_
 refine at_region ?_
 refine at_q rfl rfl (by decide) (qt_fieldAddr rfl rfl tyf_impl_Region_0) ?_
 refine at_q rfl rfl (by decide) (qt_load1 rfl rfl ty1_sl_impl_Ring (rd1 (k := 0) rfl rfl)) ?_
 refine at_q rfl rfl (by decide) (qt_len rfl rfl tyl_sl_impl_Ring) ?_
 refine at_q rfl rfl (by decide) (qt_move rfl rfl) ?_
 refine at_end ?_
 refine at_block ?_
 refine at_loopc (X := Nat × (Option Addr × Nat) × List Pc) (fun y => y.1 ≤ ss.length ∧ y.2.2.map (·.xs) = (snapG hot ss).take y.1) (fun y => ss.length - y.1) (fun y => [(20, .int .i64 (y.1 : Int))]) (C := [(1, _), (2, _), (4, _), (5, _), (6, _), (7, _), (8, _), (17, _), (18, _), (19, _)]) ⟨rfl, rfl, rfl, rfl, rfl, rfl, rfl, rfl, rfl, rfl, trivial⟩ (fun y => [.cel b1 28 [.slice cA ss.length cc], .cel b2 28 [.slice none 0 0], curRow w ss.length ss (fl, (cA, cc), cl), curPcs (fl, (cA, cc), cl), .cel b3 28 [.slice y.2.1.1 y.1 y.2.1.2], rowR (Bs.N ⟨w, []⟩) 61 1 y.1 (y.2.2.map Pc.val) y.2.1, pcsR y.2.2]) (0, (none, 0), []) (⟨Nat.zero_le _, rfl⟩) ⟨rfl, rfl, rfl, rfl, rfl, rfl, rfl, rfl, rfl, rfl, rfl, trivial⟩ (fun _ h => h) ?_
 intro ⟨k, ⟨rA, rc⟩, l⟩ hy L hL2
 refine at_envE (by simp only [ya,yb]; rfl) ?_
 refine at_rsE (by first | (dsimp only; done) | (dsimp only; rfl) | rfl) ?_
 obtain ⟨hk, hmp⟩ : k ≤ ss.length ∧ l.map (·.xs) = (snapG hot ss).take k := hy
 have hlk : l.length = k := (by have := congrArg List.length hmp; rw [List.length_map, List.length_take, snapG_len] at this; omega)
 refine at_seq ?_
 refine at_region ?_
 refine at_q rfl rfl (by decide) (qt_lss rfl rfl rfl) ?_
 refine at_end ?_
 refine at_seq ?_
 refine at_cond rfl (fun c1 => ?_) (fun c1 => ?_)
 ·try simp only [za,zb,zc,zd,ze,zf,Bool.not_true,Bool.not_false,zg,zh,ne_eq,zi,zj] at c1
  have hlt : k < ss.length := (by omega)
  refine at_fact (fun w1 hs => cur_at (hs.all 2 _ rfl).1 (hs.all 3 _ rfl).1 hx2 rfl hlt) ?_
  rintro ⟨eb, eo, eA0, Ak, ck, hread⟩
  have eA1 : cA = some ⟨eb, eo, none⟩ := eA0
  subst eA1
  have hpos := pos_of_ring (regRing hx1.reg hlt)
  obtain ⟨ho1, ho2, ho3⟩ := hx1.bare.on hlt
  have hsl := snapR_len (hot := hot) (xs := rg ss k) (by omega) (by omega)
  obtain ⟨E, hEe⟩ : ∃ E, E = edgesR (rg ss k) := ⟨_, rfl⟩
  have hEl : E.length ≤ 400 := (by rw [hEe]; omega)
  refine at_skip ?_
  refine norm_then ?_
  refine at_seq ?_
  refine at_block ?_
  refine at_seq ?_
  refine at_region ?_
  refine at_q rfl rfl (by decide) (qt_index rfl rfl rfl tyl_sl_impl_Ring (by omega)) ?_
  refine at_q rfl rfl (by decide) (qt_loadS rfl rfl tys_impl_Ring rfl (rdX1' (fun w' hs => (hread w' (hs.all 2 _ rfl).1 (hs.all 3 _ rfl).1 hs.fin).1))) ?_
  refine at_op rfl ?_
  refine op_alloc rfl tyz_impl_Ring rfl (by decide) (fun b4 => ?_)
  refine at_rsE (by simp only [ya,yb,yc,yd,Value.cells,ye]; rfl) ?_
  refine at_op rfl ?_
  refine op_storeAll' (k := 7) rfl rfl rfl rfl (rfl) (by rfl) tyz_impl_Ring.szx rfl rfl rfl ?_
  refine at_rsE (by simp only [ya,yb,yc,yd,Value.cells,ye]; rfl) ?_
  refine at_end ?_
  refine at_seq ?_
  refine at_region ?_
  refine at_q rfl rfl (by decide) (qt_assign rfl rfl) ?_
  refine at_row0 (T := 64) (s := 2) ?_
  refine at_rsE (by simp only [ya,yb,yc,yd,Value.cells,ye]; rfl) ?_
  refine at_end ?_
  refine at_seq ?_
  refine at_seq ?_
  refine at_region ?_
  refine at_q rfl rfl (by decide) (qt_loadS rfl rfl tys_impl_Ring rfl (rdAll (k := 7) rfl)) ?_
  refine at_op rfl ?_
  refine op_call ok_impl_edgesOfRing (v := fun x : Option Addr × Nat => .slice x.1 (edgesR (rg ss k)).length x.2) (r := fun x => rowR 0 77 4 _ _ x) (H := fun _ => True) rfl rfl rfl (by decide) (fun w1 hs => newRow' (edgesOfRing_any Ak _ ck (rg ss k) w1 (hread w1 (hs.all 2 _ rfl).1 (hs.all 3 _ rfl).1 hs.fin).2 (by omega))) ?_
  rintro ⟨eA, ec⟩ -
  refine at_rsE (by simp only [ya,yb,yc,yd,Value.cells,ye]; rfl) ?_
  refine at_q rfl rfl (by decide) (qt_len rfl rfl tyl_sl_impl_leg) ?_
  refine at_q rfl rfl (by decide) (qt_move rfl rfl) ?_
  refine at_end ?_
  rw [← hEe]
  refine at_block ?_
  refine at_loopc (X := Nat × Option Addr × Nat) (fun z => z.1 ≤ E.length) (fun z => E.length - z.1) (fun z => [(11, .slice z.2.1 (snTo hot E z.1).length z.2.2), (27, .int .i64 (z.1 : Int))]) (C := [(1, _), (2, _), (4, _), (5, _), (6, _), (7, _), (8, _), (17, _), (18, _), (19, _), (20, _), (21, _), (22, _), (23, _), (10, _), (24, _), (25, _), (26, _)]) ⟨rfl, rfl, rfl, rfl, rfl, rfl, rfl, rfl, rfl, rfl, rfl, rfl, rfl, rfl, rfl, rfl, rfl, rfl, trivial⟩ (fun z => [.cel b1 28 [.slice (some ⟨eb, eo, none⟩) ss.length cc], .cel b2 28 [.slice none 0 0], curRow w ss.length ss (fl, (some ⟨eb, eo, none⟩, cc), cl), curPcs (fl, (some ⟨eb, eo, none⟩, cc), cl), .cel b3 28 [.slice rA k rc], rowR (Bs.N ⟨w, []⟩) 61 1 k (l.map Pc.val) (rA, rc), pcsR l, .cel b4 61 [.slice Ak (rg ss k).length ck], rowR (Bs.N ⟨w, []⟩) 64 2 (snTo hot E z.1).length ((snTo hot E z.1).flatMap ptCells) z.2, rowR 0 77 4 E.length (E.flatMap legCells) (eA, ec)]) (0, none, 0) (Nat.zero_le _) ⟨rfl, rfl, rfl, rfl, rfl, rfl, rfl, rfl, rfl, rfl, rfl, rfl, rfl, rfl, rfl, rfl, rfl, rfl, rfl, rfl, trivial⟩ (fun _ h => h) ?_
  intro ⟨j, qA, qc⟩ hz L hL3
  refine at_envE (by simp only [ya,yb]; rfl) ?_
  refine at_rsE (by first | (dsimp only; done) | (dsimp only; rfl) | rfl) ?_
  have hj : j ≤ E.length := hz
  have hsn := snTo_len (hot := hot) (E := E) (m := 1048576) (by omega) j hj
  refine at_seq ?_
  refine at_region ?_
  refine at_q rfl rfl (by decide) (qt_lss rfl rfl rfl) ?_
  refine at_end ?_
  refine at_seq ?_
  refine at_cond rfl (fun c2 => ?_) (fun c2 => ?_)
  ·try simp only [za,zb,zc,zd,ze,zf,Bool.not_true,Bool.not_false,zg,zh,ne_eq,zi,zj] at c2
   have hjl : j < E.length := (by omega)
   obtain ⟨g1', g2', g3'⟩ := (hEe ▸ ho1 : onHot hot E).at_ hjl
   obtain ⟨mid, hmid⟩ := path_ends g1' g2' g3'
   have hpl : 0 < (pathP (lA (lg E j)) (lB (lg E j)) hot).length := (by rw [hmid]; simp)
   have hpm : (pathP (lA (lg E j)) (lB (lg E j)) hot).length ≤ 1048576 := (by rw [pathP_eq]; have := stop_len (lA (lg E j)) (lB (lg E j)) hot; omega)
   refine at_fact (fun w hs => rowSome (k := 9) rfl hs (by omega)) ?_
   rintro ⟨eg, rfl⟩
   refine at_skip ?_
   refine norm_then ?_
   refine at_seq ?_
   refine at_block ?_
   refine at_seq ?_
   refine at_region ?_
   refine at_q rfl rfl (by decide) (qt_index rfl rfl rfl tyl_sl_impl_leg (by omega)) ?_
   refine at_q rfl rfl (by decide) (qt_loadS rfl rfl tys_impl_leg rfl (rdLeg (b := eg) (o := 0) (rowLegs (k := 9) (x := (some ⟨eg, 0, none⟩, ec)) (ls := E) rfl rfl) hjl)) ?_
   refine at_op rfl ?_
   refine op_alloc rfl tyz_impl_leg rfl (by decide) (fun b5 => ?_)
   refine at_rsE (by simp only [ya,yb,yc,yd,Value.cells,ye]; rfl) ?_
   refine at_op rfl ?_
   refine op_storeAll' (k := 10) rfl rfl rfl rfl (rfl) (by rfl) tyz_impl_leg.szx rfl rfl rfl ?_
   refine at_rsE (by simp only [ya,yb,yc,yd,Value.cells,ye]; rfl) ?_
   refine at_end ?_
   refine at_seq ?_
   refine at_region ?_
   refine at_q rfl rfl (by decide) (qt_fieldAddr rfl rfl tyf_impl_leg_0) ?_
   refine at_q rfl rfl (by decide) (qt_loadS rfl rfl tys_impl_Pt rfl (rd2 (k := 10) rfl rfl rfl)) ?_
   refine at_q rfl rfl (by decide) (qt_fieldAddr rfl rfl tyf_impl_leg_1) ?_
   refine at_q rfl rfl (by decide) (qt_loadS rfl rfl tys_impl_Pt rfl (rd2 (k := 10) rfl rfl rfl)) ?_
   refine at_q rfl rfl (by decide) (qt_move rfl rfl) ?_
   refine at_op rfl ?_
   refine op_call ok_impl_snapEdge (v := fun x : Option Addr × Nat => .slice x.1 (pathP (lA (lg E j)) (lB (lg E j)) hot).length x.2) (r := fun x => rowR 0 64 2 (pathP (lA (lg E j)) (lB (lg E j)) hot).length ((pathP (lA (lg E j)) (lB (lg E j)) hot).flatMap ptCells) x) (H := fun _ => True) rfl rfl rfl (by decide) (fun w1 hs => newRow' (snapEdge_any (lA (lg E j)) (lB (lg E j)) B m d hot w1 (hh.over hs.fin) (hok _ g2') (hok _ g3') hok hasc hmd hm)) ?_
   rintro ⟨pA, pc⟩ -
   refine at_rsE (by simp only [ya,yb,yc,yd,Value.cells,ye]; rfl) ?_
   refine at_q rfl rfl (by decide) (qt_assign rfl rfl) ?_
   refine at_end ?_
   refine at_fact (fun w hs => rowSome (k := 11) rfl hs hpl) ?_
   rintro ⟨pg, rfl⟩
   refine at_fact (fun w hs => rowCap (hs.all 11 _ rfl).1) ?_
   intro hcap
   have hst : snTo hot E (j + 1) = snTo hot E j ++ (pathP (lA (lg E j)) (lB (lg E j)) hot).take ((pathP (lA (lg E j)) (lB (lg E j)) hot).length - 1) := (by rw [snTo_step hjl]; unfold pieceP; rw [List.dropLast_eq_take])
   have hstl : (snTo hot E (j + 1)).length = (snTo hot E j).length + ((pathP (lA (lg E j)) (lB (lg E j)) hot).length - 1) := (by rw [hst, List.length_append, List.length_take]; omega)
   refine at_region ?_
   refine at_q rfl rfl (by decide) (qt_move rfl rfl) ?_
   refine at_q rfl rfl (by decide) (qt_move rfl rfl) ?_
   refine at_q rfl rfl (by decide) (qt_move rfl rfl) ?_
   refine at_q rfl rfl (by decide) (qt_len rfl rfl tyl_sl_impl_Pt) ?_
   refine at_q rfl rfl (by decide) ((qt_sub rfl rfl rfl (by omega) (by omega)).as (congrArg _ (show (((pathP (lA (lg E j)) (lB (lg E j)) hot).length : Int) - 1) = (((pathP (lA (lg E j)) (lB (lg E j)) hot).length - 1 : Nat) : Int) by omega))) ?_
   refine at_q rfl rfl (by decide) ((qt_sliceH rfl rfl rfl tyl_sl_impl_Pt (by omega)).as (slicedH _ _ _ _ _)) ?_
   refine at_op rfl ?_
   refine op_appendR (k := 8) rfl tyl_sl_impl_Pt tyz_impl_Pt (by decide) rfl (by decide) rfl rfl rfl (fun w' hs => srcTake (ptsRow (hs.all 11 _ rfl).1 rfl) (by omega)) (ptCells_one _) (by unfold maxLen; omega) (by omega) (Nat.le_refl _) (fun r1 => ?_)
   refine at_rsE (by simp only [ya,yb,yc,yd,Value.cells,ye]; rfl) ?_
   refine at_q rfl rfl (by decide) (qt_assign rfl rfl) ?_
   refine at_nil ?_
   refine norm_block ?_
   refine norm_then ?_
   refine at_region ?_
   refine at_q rfl rfl (by decide) (qt_add rfl rfl rfl (by omega) (by omega)) ?_
   refine at_q rfl rfl (by decide) (qt_move rfl rfl) ?_
   refine at_end ?_
   exact at_againc hL3 ((j + 1, r1)) ((show j + 1 ≤ E.length by omega)) (by simp only; omega) ⟨(by rw [hstl]; rfl), vi (by omega), rfl, rfl, rfl, rfl, rfl, rfl, rfl, rfl, rfl, rfl, rfl, rfl, rfl, rfl, rfl, rfl, rfl, rfl, trivial⟩ (fun _ h => (h.picks [0, 1, 2, 3, 4, 5, 6, 7, 8, 9] (by decide)).upto ⟨rfl, rfl, rfl, rfl, rfl, rfl, rfl, rfl, by rw [hstl, hst, List.flatMap_append], rfl, trivial⟩)
  ·try simp only [za,zb,zc,zd,ze,zf,Bool.not_true,Bool.not_false,zg,zh,ne_eq,zi,zj] at c2
   have hjE : j = E.length := (by omega)
   subst hjE
   rw [show snTo hot E E.length = snapR hot (rg ss k) by rw [snapR_to, hEe]]
   refine at_exit ?_
   refine pass_then (fun h => by cases h) ?_
   refine pass_then (fun h => by cases h) ?_
   refine pass_hit ?_
   refine norm_then ?_
   refine at_region ?_
   refine at_q rfl rfl (by decide) (qt_fieldAddr rfl rfl tyf_impl_Region_0) ?_
   refine at_q rfl rfl (by decide) (qt_load1 rfl rfl ty1_sl_impl_Ring (rd1 (k := 4) rfl rfl)) ?_
   refine at_q rfl rfl (by decide) (qt_move rfl rfl) ?_
   refine at_q rfl rfl (by decide) (qt_build rfl rfl (bld_impl_Ring_0 rfl)) ?_
   refine at_op rfl ?_
   refine op_buildSlice rfl rfl (bsl_sl_impl_Ring_1_0 rfl) rfl (by decide) (fun b6 => ?_)
   refine at_rsE (by simp only [ya,yb,yc,yd,Value.cells,ye]; rfl) ?_
   refine at_op rfl ?_
   refine op_appendR (k := 5) rfl tyl_sl_impl_Ring tyz_impl_Ring (by decide) rfl (by decide) rfl rfl rfl (fun w' hs => src_cel hs (k := 10) rfl rfl) (by simp [Value.oneCell']) (by unfold maxLen; omega) (by omega) (Nat.le_refl _) (fun r2 => ?_)
   refine at_rsE (by simp only [ya,yb,yc,yd,Value.cells,ye]; rfl) ?_
   refine at_q rfl rfl (by decide) (qt_fieldAddr rfl rfl tyf_impl_Region_0) ?_
   refine at_op rfl ?_
   refine op_storeAll' (k := 4) rfl rfl rfl rfl (rfl) (by rfl) tyz_sl_impl_Ring.szx rfl rfl rfl ?_
   refine at_rsE (by simp only [ya,yb,yc,yd,Value.cells,ye]; rfl) ?_
   refine at_nil ?_
   refine at_pc 8 rfl rfl (fun clo chi => ?_)
   refine at_rsE (by simp only [List.nil_append, List.cons_append, List.set_cons_zero, List.set_cons_succ, List.eraseIdx_cons_zero, List.eraseIdx_cons_succ, Value.cells, List.toList_toArray]; rfl) ?_
   refine at_push 6 8 rfl rfl (by decide) rfl ?_
   refine at_rsE (by simp only [List.nil_append, List.cons_append, List.set_cons_zero, List.set_cons_succ, List.eraseIdx_cons_zero, List.eraseIdx_cons_succ, Value.cells, List.toList_toArray]; rfl) ?_
   refine norm_block ?_
   refine norm_then ?_
   refine at_region ?_
   refine at_q rfl rfl (by decide) (qt_add rfl rfl rfl (by omega) (by omega)) ?_
   refine at_q rfl rfl (by decide) (qt_move rfl rfl) ?_
   refine at_end ?_
   exact at_againc hL2 ((k + 1, r2, l ++ [⟨snapR hot (rg ss k), qA, qc, clo, chi⟩])) (⟨show k + 1 ≤ ss.length by omega, by rw [List.map_append, hmp, take_step (by rw [snapG_len]; omega), rg_snapG hlt]; rfl⟩) (by simp only; omega) ⟨vi (by omega), rfl, rfl, rfl, rfl, rfl, rfl, rfl, rfl, rfl, rfl, trivial⟩ (fun _ h => (h.picks [0, 1, 2, 3, 4, 5, 6] (by decide)).upto ⟨rfl, rfl, rfl, rfl, rfl, by rw [List.map_append]; rfl, (pcsR_push _ _).symm, trivial⟩)
 ·try simp only [za,zb,zc,zd,ze,zf,Bool.not_true,Bool.not_false,zg,zh,ne_eq,zi,zj] at c1
  have hkn : k = ss.length := (by omega)
  subst hkn
  have hall : l.map (·.xs) = snapG hot ss := (by rw [hmp, List.take_of_length_le (by rw [snapG_len]; omega)])
  have hsml : ∀ e ∈ l, e.xs.length ≤ 1099511627776 := (fun e he => by obtain ⟨q, hq, e2⟩ := List.mem_map.1 (hall ▸ List.mem_map.2 ⟨e, he, rfl⟩ : e.xs ∈ snapG hot ss); rw [← e2]; obtain ⟨i, hi, e3⟩ := List.getElem_of_mem hq; have := pos_of_ring (regRing hx1.reg hi); rw [at_r hi] at e3; rw [e3] at this; have := snapR_len (hot := hot) (xs := q) (by omega) (by omega); omega)
  refine at_exit ?_
  refine pass_then (fun h => by cases h) ?_
  refine pass_then (fun h => by cases h) ?_
  refine pass_hit ?_
  refine norm_then ?_
  refine at_seq ?_
  refine at_seq ?_
  refine at_region ?_
  refine at_q rfl rfl (by decide) (qt_loadS rfl rfl tys_impl_Region rfl (rdAll (k := 4) rfl)) ?_
  refine at_q rfl rfl (by decide) (qt_loadS rfl rfl tys_impl_Region rfl (rdAll (k := 0) rfl)) ?_
  refine at_q rfl rfl (by decide) (qt_call ok_impl_SameRegion rfl rfl (fun w1 hs => SameRegion_big rA cA ss.length ss.length rc cc (snapG hot ss) ss w1 (hall ▸ row_rings (hs.all 5 _ rfl).1 (hs.all 6 _ rfl).1 hlk hsml) (cur_rings (hs.all 2 _ rfl).1 (hs.all 3 _ rfl).1 hs.fin hx2 rfl hsm) (by omega))) ?_
  refine at_end ?_
  refine at_cond rfl (fun c3 => ?_) (fun c3 => ?_)
  ·try simp only [za,zb,zc,zd,ze,zf,Bool.not_true,Bool.not_false,zg,zh,ne_eq,zi,zj] at c3
   have hsame : snapG hot ss = ss := (by simpa using c3)
   refine at_seq ?_
   refine at_region ?_
   refine at_q rfl rfl (by decide) (qt_loadS rfl rfl tys_impl_Region rfl (rdAll (k := 0) rfl)) ?_
   refine at_q rfl rfl (by decide) (qt_move rfl rfl) ?_
   refine at_op rfl ?_
   refine op_storeAll' (k := 1) rfl rfl rfl rfl (rfl) (by rfl) tyz_impl_Region.szx rfl rfl rfl ?_
   refine at_rsE (by simp only [ya,yb,yc,yd,Value.cells,ye]; rfl) ?_
   refine at_q rfl rfl (by decide) (qt_assign rfl rfl) ?_
   refine at_q rfl rfl (by decide) (qt_assign rfl rfl) ?_
   refine at_end ?_
   refine at_retc ?_
   refine then_ret ?_
   refine pass_ret ?_
   refine then_ret ?_
   refine then_ret ?_
   refine pass_ret ?_
   refine at_ret3 rfl (rvCelS (k := 1) rfl tys_impl_Region rfl rfl) (.tmp rfl) (.tmp rfl) ?_
   intro w' hs
   obtain ⟨e1, e2, e3⟩ := st_some (hx1.fin hsame)
   refine ⟨cA, cc, by rw [e1, e2, e3]; rfl, ?_, hs.fin⟩
   rw [e1]
   cases fl
   ·exact .inr (pcs_rowB hs (kr := 2) (kp := 3) rfl rfl (by decide) rfl (by have := congrArg List.length (hx2 rfl); rw [List.length_map] at this; omega) (hx2 rfl) (fun j hj => by have := hsm _ (List.getElem_mem hj); rw [at_r hj] at this; omega))
   ·exact (by obtain ⟨q1, q2⟩ := hx3 rfl; injection q2 with q2 q3; exact .inl ⟨q2, q3, q1⟩)
  ·try simp only [za,zb,zc,zd,ze,zf,Bool.not_true,Bool.not_false,zg,zh,ne_eq,zi,zj] at c3
   refine at_skip ?_
   refine norm_then ?_
   refine at_seq ?_
   refine at_seq ?_
   refine at_region ?_
   refine at_q rfl rfl (by decide) (qt_loadS rfl rfl tys_impl_Region rfl (rdAll (k := 4) rfl)) ?_
   refine at_q rfl rfl (by decide) (qt_call ok_impl_ValidRegion rfl rfl (fun w1 hs => ValidRegion_big rA ss.length rc (snapG hot ss) w1 (hall ▸ row_rings (hs.all 5 _ rfl).1 (hs.all 6 _ rfl).1 hlk hsml) (by omega))) ?_
   refine at_q rfl rfl (by decide) (qt_not rfl rfl) ?_
   refine at_end ?_
   refine at_cond rfl (fun c4 => ?_) (fun c4 => ?_)
   ·try simp only [za,zb,zc,zd,ze,zf,Bool.not_true,Bool.not_false,zg,zh,ne_eq,zi,zj] at c4
    refine at_seq ?_
    refine at_region ?_
    refine at_q rfl rfl (by decide) (qt_build rfl rfl (bld_impl_Region_)) ?_
    refine at_op rfl ?_
    refine op_storeAll' (k := 1) rfl rfl rfl rfl (rfl) (by rfl) tyz_impl_Region.szx rfl rfl rfl ?_
    refine at_rsE (by simp only [ya,yb,yc,yd,Value.cells,ye]; rfl) ?_
    refine at_q rfl rfl (by decide) (qt_assign rfl rfl) ?_
    refine at_q rfl rfl (by decide) (qt_assign rfl rfl) ?_
    refine at_end ?_
    refine at_retc ?_
    refine then_ret ?_
    refine pass_ret ?_
    refine then_ret ?_
    refine then_ret ?_
    refine pass_ret ?_
    refine at_ret3 rfl (rvCelS (k := 1) rfl tys_impl_Region rfl rfl) (.tmp rfl) (.tmp rfl) ?_
    intro w' hs
    obtain ⟨e1, e2, e3⟩ := st_none (hx1.full c4)
    exact ⟨none, 0, by rw [e1, e2, e3]; rfl, by rw [e1]; exact .inr (OwnG.nil none), hs.fin⟩
   ·try simp only [za,zb,zc,zd,ze,zf,Bool.not_true,Bool.not_false,zg,zh,ne_eq,zi,zj] at c4
    obtain ⟨k1, k2⟩ := hx1.step hnd c4 (by simpa using c3)
    have hc4 := reg_cnt k1.reg k1.bare
    refine at_skip ?_
    refine norm_then ?_
    refine at_region ?_
    refine at_q rfl rfl (by decide) (qt_loadS rfl rfl tys_impl_Region rfl (rdAll (k := 4) rfl)) ?_
    refine at_op rfl ?_
    refine op_storeAll' (k := 0) rfl rfl rfl rfl (rfl) (by rfl) tyz_impl_Region.szx rfl rfl rfl ?_
    refine at_rsE (by simp only [ya,yb,yc,yd,Value.cells,ye]; rfl) ?_
    refine at_nil ?_
    refine norm_block ?_
    refine norm_then ?_
    refine at_region ?_
    refine at_q rfl rfl (by decide) (qt_move rfl rfl) ?_
    refine at_q rfl rfl (by decide) (qt_add rfl rfl rfl (by omega) (by omega)) ?_
    refine at_q rfl rfl (by decide) (qt_assign rfl rfl) ?_
    refine at_end ?_
    exact at_againc hL1 ((r + 1, snapG hot ss, false, (rA, rc), l)) (⟨k1, (fun _ => hall), (fun e => by cases e)⟩) (by simp only; omega) ⟨vi (by omega), rfl, rfl, rfl, rfl, rfl, trivial⟩ (fun _ h => (h.picks [0, 1, 5, 6] (by decide)).upto ⟨by rw [snapG_len], rfl, by rw [snapG_len]; rfl, rfl, trivial⟩)
end Go.Proofs.YtakdjgldcpompaaGreat
