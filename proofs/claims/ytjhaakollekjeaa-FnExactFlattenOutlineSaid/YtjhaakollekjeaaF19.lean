import Derived.Test.YtjhaakollekjeaaF18
import Derived.Test.YtjhaakollekjeaaF17
import Derived.Test.YtjhaakollekjeaaF10
namespace Go.Proofs.Ytjhaakollekjeaa
open Go Go.RowKit
set_option linter.unusedVariables false
set_option linter.unusedSimpArgs false
set_option maxRecDepth 100000
set_option maxHeartbeats 4000000
set_option linter.unusedVariables false
set_option linter.unusedSimpArgs false

/-! ### Sizes -/
def sumK (ls : List (List Kn)) : Nat → Nat
 | 0 => 0
 | k + 1 => sumK ls k + (lp ls k).length
theorem sumK_mono (ls : List (List Kn)) {k m : Nat} (h : k ≤ m) : sumK ls k ≤ sumK ls m := by
 induction m with
 | zero => rw [show k = 0 by omega]; exact Nat.le_refl _
 | succ m ih =>
  by_cases e : k = m + 1
  ·rw [e]; exact Nat.le_refl _
  ·have := ih (by omega)
   simp only [sumK]
   omega
def totK (ls : List (List Kn)) : Nat := ls.length + sumK ls ls.length
theorem lp_le {ls : List (List Kn)} {k : Nat} (h : k < ls.length) : (lp ls k).length ≤ totK ls := by
 have := sumK_mono ls (show k + 1 ≤ ls.length by omega)
 simp only [sumK] at this
 unfold totK
 omega
theorem szKnotS_any (A : Option Addr) (n c : Nat) (l : Int) (w : World) (hl : 0 ≤ l) (hl' : l ≤ 1048576) (hn : (n : Int) ≤ 9223372036854775807) :
  Calls Try.prog 113 #[.slice A n c, .int .i64 l] w fun e w' => e = .returned (.int .i64 (szV l n)) ∧ Over w w' := by
 refine walk_from (m := 12) (Try.func113) rfl rfl (Nat.le_of_ble_eq_true rfl) ?_
 refine at_seq ?_
 refine at_region ?_
 refine at_q rfl rfl (by decide) (qt_assign rfl rfl) ?_
 refine at_end ?_
 refine at_seq ?_
 refine at_region ?_
 refine at_q rfl rfl (by decide) (qt_move rfl rfl) ?_
 refine at_q rfl rfl (by decide) (qt_move rfl rfl) ?_
 refine at_q rfl rfl (by decide) (qt_len rfl rfl tyl_sl_laws_Knot) ?_
 refine at_q rfl rfl (by decide) (qt_sub rfl rfl rfl (by omega) (by omega)) ?_
 refine at_q rfl rfl (by decide) (qt_assign rfl rfl) ?_
 refine at_end ?_
 refine at_seq ?_
 refine at_seq ?_
 refine at_region ?_
 refine at_q rfl rfl (by decide) (qt_move rfl rfl) ?_
 refine at_q rfl rfl (by decide) (qt_lss rfl rfl rfl) ?_
 refine at_end ?_
 refine at_cond rfl (fun c1 => ?_) (fun c1 => ?_)
 ·try simp only [za,zb,zc,zd,ze,zf,Bool.not_true,Bool.not_false,zg,zh,ne_eq,zi,zj] at c1
  refine at_seq ?_
  refine at_region ?_
  refine at_q rfl rfl (by decide) (qt_assign rfl rfl) ?_
  refine at_end ?_
  refine at_retc ?_
  refine then_ret ?_
  refine at_ret1 rfl (.tmp rfl) ?_
  intro w' hs
  exact ⟨retI (by unfold szV; rw [if_neg (by omega)]), hs.fin⟩
 ·try simp only [za,zb,zc,zd,ze,zf,Bool.not_true,Bool.not_false,zg,zh,ne_eq,zi,zj] at c1
  refine at_skip ?_
  refine norm_then ?_
  refine at_seq ?_
  refine at_region ?_
  refine at_q rfl rfl (by decide) (qt_move rfl rfl) ?_
  refine at_q rfl rfl (by decide) (qt_assign rfl rfl) ?_
  refine at_end ?_
  refine at_retc ?_
  refine at_ret1 rfl (.tmp rfl) ?_
  intro w' hs
  exact ⟨retI (by unfold szV; rw [if_pos (by omega)]), hs.fin⟩
theorem szV_neg {l : Int} {n : Nat} (h : szV l n < 0) : ¬ (n : Int) ≤ l ∧ szV l n = -1 := by
 unfold szV at *
 split
 ·rename_i h2; rw [if_pos h2] at h; omega
 ·exact ⟨by assumption, rfl⟩
theorem szLoop_any (A : Option Addr) (n c : Nat) (l : Int) (w : World) (hl : 0 ≤ l) (hl' : l ≤ 1048576) (hn : (n : Int) ≤ 9223372036854775807) :
  Calls Try.prog 70 #[outV A n c, .int .i64 l] w fun e w' => e = .returned (.int .i64 (szV l n)) ∧ Over w w' := by
 refine walk_from (m := 12) (Try.func70) rfl rfl (Nat.le_of_ble_eq_true rfl) ?_
 refine at_seq ?_
 refine at_region ?_
 refine at_op rfl ?_
 refine op_box rfl rfl (rfl) rfl (by decide) (fun b1 => ?_)
 refine at_rsE (by simp only [ya,yb,yc,yd,Value.cells,ye]; rfl) ?_
 refine at_q rfl rfl (by decide) (qt_assign rfl rfl) ?_
 refine at_end ?_
 refine at_seq ?_
 refine at_region ?_
 refine at_q rfl rfl (by decide) (qt_fieldAddr rfl rfl tyf_laws_Loop_0) ?_
 refine at_q rfl rfl (by decide) (qt_load1 rfl rfl ty1_sl_laws_Knot (rd1 (k := 0) rfl rfl)) ?_
 refine at_q rfl rfl (by decide) (qt_move rfl rfl) ?_
 refine at_q rfl rfl (by decide) (qt_call ok_laws_szKnotS rfl rfl (fun w1 hs => szKnotS_any A n _ l w1 hl hl' hn)) ?_
 refine at_q rfl rfl (by decide) (qt_assign rfl rfl) ?_
 refine at_end ?_
 refine at_seq ?_
 refine at_seq ?_
 refine at_region ?_
 refine at_q rfl rfl (by decide) (qt_move rfl rfl) ?_
 refine at_q rfl rfl (by decide) (qt_lss rfl rfl rfl) ?_
 refine at_end ?_
 refine at_cond rfl (fun c1 => ?_) (fun c1 => ?_)
 ·try simp only [za,zb,zc,zd,ze,zf,Bool.not_true,Bool.not_false,zg,zh,ne_eq,zi,zj] at c1
  refine at_seq ?_
  refine at_region ?_
  refine at_q rfl rfl (by decide) (qt_assign rfl rfl) ?_
  refine at_end ?_
  refine at_retc ?_
  refine then_ret ?_
  refine at_ret1 rfl (.tmp rfl) ?_
  intro w' hs
  exact ⟨retI (szV_neg c1).2.symm, hs.fin⟩
 ·try simp only [za,zb,zc,zd,ze,zf,Bool.not_true,Bool.not_false,zg,zh,ne_eq,zi,zj] at c1
  refine at_skip ?_
  refine norm_then ?_
  refine at_seq ?_
  refine at_region ?_
  refine at_q rfl rfl (by decide) (qt_move rfl rfl) ?_
  refine at_q rfl rfl (by decide) (qt_assign rfl rfl) ?_
  refine at_end ?_
  refine at_retc ?_
  refine at_ret1 rfl (.tmp rfl) ?_
  intro w' hs
  exact ⟨rfl, hs.fin⟩
theorem szLoopS_any (A : Option Addr) (n c : Nat) (ls : List (List Kn)) (l : Int) (w : World) (h : Loops w A n ls) (hl : 0 ≤ l) (hl' : l ≤ 1048576) (hn : (n : Int) ≤ 9223372036854775807) :
  Calls Try.prog 36 #[.slice A n c, .int .i64 l] w fun e w' => e = .returned (.int .i64 (szV l (totK ls))) ∧ Over w w' := by
 have hln := h.1
 have hno : ∀ k, k ≤ n → ¬ ((n + sumK ls k : Nat) : Int) ≤ l → (-1 : Int) = szV l (totK ls) := fun k hk hh => by
  have := sumK_mono ls hk
  unfold szV totK
  rw [if_neg (by rw [hln]; omega)]
 refine walk_from (m := 27) (Try.func36) rfl rfl (Nat.le_of_ble_eq_true rfl) ?_
 refine at_seq ?_
 refine at_region ?_
 refine at_q rfl rfl (by decide) (qt_assign rfl rfl) ?_
 refine at_end ?_
 refine at_seq ?_
 refine at_region ?_
 refine at_q rfl rfl (by decide) (qt_move rfl rfl) ?_
 refine at_q rfl rfl (by decide) (qt_move rfl rfl) ?_
 refine at_q rfl rfl (by decide) (qt_len rfl rfl tyl_sl_laws_Loop) ?_
 refine at_q rfl rfl (by decide) (qt_sub rfl rfl rfl (by omega) (by omega)) ?_
 refine at_q rfl rfl (by decide) (qt_assign rfl rfl) ?_
 refine at_end ?_
 refine at_seq ?_
 refine at_seq ?_
 refine at_region ?_
 refine at_q rfl rfl (by decide) (qt_move rfl rfl) ?_
 refine at_q rfl rfl (by decide) (qt_lss rfl rfl rfl) ?_
 refine at_end ?_
 refine at_cond rfl (fun c1 => ?_) (fun c1 => ?_)
 ·try simp only [za,zb,zc,zd,ze,zf,Bool.not_true,Bool.not_false,zg,zh,ne_eq,zi,zj] at c1
  refine at_seq ?_
  refine at_region ?_
  refine at_q rfl rfl (by decide) (qt_assign rfl rfl) ?_
  refine at_end ?_
  refine at_retc ?_
  refine then_ret ?_
  refine at_ret1 rfl (.tmp rfl) ?_
  intro w' hs
  exact ⟨retI (hno 0 (Nat.zero_le _) (by simp only [sumK]; omega)), hs.fin⟩
 ·try simp only [za,zb,zc,zd,ze,zf,Bool.not_true,Bool.not_false,zg,zh,ne_eq,zi,zj] at c1
  refine at_skip ?_
  refine norm_then ?_
  refine at_seq ?_
  refine at_seq ?_
  refine at_region ?_
  refine at_q rfl rfl (by decide) (qt_assign rfl rfl) ?_
  refine at_end ?_
  refine at_block ?_
  refine at_loopk (X := Nat) (fun k => k ≤ n ∧ ((n + sumK ls k : Nat) : Int) ≤ l) (fun k => n - k) (fun k => [(1, .int .i64 (l - ((n + sumK ls k : Nat) : Int))), (5, .int .i64 (k : Int))]) (C := [(0, _), (4, _)]) ⟨rfl, rfl, trivial⟩ 0 (⟨Nat.zero_le _, by simp only [sumK]; omega⟩) ⟨vi (by simp only [sumK]; omega), rfl, rfl, rfl, trivial⟩ ?_
  intro k hk L hL1
  refine at_envE (by simp only [ya,yb]; rfl) ?_
  obtain ⟨hk1, hk2⟩ := hk
  refine at_seq ?_
  refine at_seq ?_
  refine at_region ?_
  refine at_q rfl rfl (by decide) (qt_move rfl rfl) ?_
  refine at_q rfl rfl (by decide) (qt_move rfl rfl) ?_
  refine at_q rfl rfl (by decide) (qt_len rfl rfl tyl_sl_laws_Loop) ?_
  refine at_q rfl rfl (by decide) (qt_lss rfl rfl rfl) ?_
  refine at_end ?_
  refine at_cond rfl (fun c2 => ?_) (fun c2 => ?_)
  ·try simp only [za,zb,zc,zd,ze,zf,Bool.not_true,Bool.not_false,zg,zh,ne_eq,zi,zj] at c2
   have hlt : k < n := (by omega)
   obtain ⟨eb, eo, Ak, ck, rfl, hbB, hcell, hkns, hmax⟩ := h.at_ hlt
   refine at_skip ?_
   refine norm_then ?_
   refine at_seq ?_
   refine at_block ?_
   refine at_seq ?_
   refine at_region ?_
   refine at_q rfl rfl (by decide) (qt_move rfl rfl) ?_
   refine at_q rfl rfl (by decide) (qt_move rfl rfl) ?_
   refine at_q rfl rfl (by decide) (qt_index rfl rfl rfl tyl_sl_laws_Loop (by omega)) ?_
   refine at_q rfl rfl (by decide) (qt_loadS rfl rfl tys_laws_Loop rfl (rdOld1 hcell hbB)) ?_
   refine at_q rfl rfl (by decide) (qt_move rfl rfl) ?_
   refine at_q rfl rfl (by decide) (qt_call ok_laws_szLoop rfl rfl (fun w1 hs => szLoop_any Ak _ ck _ w1 (by omega) (by omega) hmax)) ?_
   refine at_q rfl rfl (by decide) (qt_assign rfl rfl) ?_
   refine at_end ?_
   refine at_seq ?_
   refine at_region ?_
   refine at_q rfl rfl (by decide) (qt_move rfl rfl) ?_
   refine at_q rfl rfl (by decide) (qt_lss rfl rfl rfl) ?_
   refine at_end ?_
   refine at_cond rfl (fun c3 => ?_) (fun c3 => ?_)
   ·try simp only [za,zb,zc,zd,ze,zf,Bool.not_true,Bool.not_false,zg,zh,ne_eq,zi,zj] at c3
    refine at_seq ?_
    refine at_region ?_
    refine at_q rfl rfl (by decide) (qt_assign rfl rfl) ?_
    refine at_end ?_
    refine at_retc ?_
    refine pass_ret ?_
    refine then_ret ?_
    refine then_ret ?_
    refine pass_ret ?_
    refine then_ret ?_
    refine at_ret1 rfl (.tmp rfl) ?_
    intro w' hs
    exact ⟨retI (hno (k + 1) (by omega) (by have := (szV_neg c3).1; simp only [sumK]; omega)), hs.fin⟩
   ·try simp only [za,zb,zc,zd,ze,zf,Bool.not_true,Bool.not_false,zg,zh,ne_eq,zi,zj] at c3
    obtain ⟨s1, s2⟩ := szV_okk c3
    refine at_skip ?_
    refine norm_block ?_
    refine norm_then ?_
    refine at_region ?_
    refine at_q rfl rfl (by decide) (qt_move rfl rfl) ?_
    refine at_q rfl rfl (by decide) (qt_add rfl rfl rfl (by omega) (by omega)) ?_
    refine at_q rfl rfl (by decide) (qt_assign rfl rfl) ?_
    refine at_end ?_
    exact at_againk hL1 (k + 1) (⟨by omega, by simp only [sumK]; omega⟩) (by omega) ⟨vi (by rw [s2]; simp only [sumK]; omega), vi (by omega), rfl, rfl, trivial⟩ (fun _ h => h.upto trivial)
  ·try simp only [za,zb,zc,zd,ze,zf,Bool.not_true,Bool.not_false,zg,zh,ne_eq,zi,zj] at c2
   refine at_exit ?_
   refine pass_then (fun h => by cases h) ?_
   refine pass_then (fun h => by cases h) ?_
   refine pass_hit ?_
   refine norm_then ?_
   refine at_seq ?_
   refine at_region ?_
   refine at_q rfl rfl (by decide) (qt_move rfl rfl) ?_
   refine at_q rfl rfl (by decide) (qt_assign rfl rfl) ?_
   refine at_end ?_
   refine at_retc ?_
   refine at_ret1 rfl (.tmp rfl) ?_
   intro w' hs
   obtain rfl : k = n := (by omega)
   exact ⟨retI (by unfold szV totK; rw [hln, if_pos (by omega)]), hs.fin⟩
theorem szOutline_any (A : Option Addr) (n c : Nat) (ls : List (List Kn)) (l : Int) (w : World) (h : Loops w A n ls) (hl : 0 ≤ l) (hl' : l ≤ 1048576) (hn : (n : Int) ≤ 9223372036854775807) :
  Calls Try.prog 11 #[outV A n c, .int .i64 l] w fun e w' => e = .returned (.int .i64 (szV l (totK ls))) ∧ Over w w' := by
 refine walk_from (m := 12) (Try.func11) rfl rfl (Nat.le_of_ble_eq_true rfl) ?_
 refine at_seq ?_
 refine at_region ?_
 refine at_op rfl ?_
 refine op_box rfl rfl (rfl) rfl (by decide) (fun b1 => ?_)
 refine at_rsE (by simp only [ya,yb,yc,yd,Value.cells,ye]; rfl) ?_
 refine at_q rfl rfl (by decide) (qt_assign rfl rfl) ?_
 refine at_end ?_
 refine at_seq ?_
 refine at_region ?_
 refine at_q rfl rfl (by decide) (qt_fieldAddr rfl rfl tyf_laws_Outline_0) ?_
 refine at_q rfl rfl (by decide) (qt_load1 rfl rfl ty1_sl_laws_Loop (rd1 (k := 0) rfl rfl)) ?_
 refine at_q rfl rfl (by decide) (qt_move rfl rfl) ?_
 refine at_q rfl rfl (by decide) (qt_call ok_laws_szLoopS rfl rfl (fun w1 hs => szLoopS_any A n _ ls l w1 (h.over hs.fin) hl hl' hn)) ?_
 refine at_q rfl rfl (by decide) (qt_assign rfl rfl) ?_
 refine at_end ?_
 refine at_seq ?_
 refine at_seq ?_
 refine at_region ?_
 refine at_q rfl rfl (by decide) (qt_move rfl rfl) ?_
 refine at_q rfl rfl (by decide) (qt_lss rfl rfl rfl) ?_
 refine at_end ?_
 refine at_cond rfl (fun c1 => ?_) (fun c1 => ?_)
 ·try simp only [za,zb,zc,zd,ze,zf,Bool.not_true,Bool.not_false,zg,zh,ne_eq,zi,zj] at c1
  refine at_seq ?_
  refine at_region ?_
  refine at_q rfl rfl (by decide) (qt_assign rfl rfl) ?_
  refine at_end ?_
  refine at_retc ?_
  refine then_ret ?_
  refine at_ret1 rfl (.tmp rfl) ?_
  intro w' hs
  exact ⟨retI (szV_neg c1).2.symm, hs.fin⟩
 ·try simp only [za,zb,zc,zd,ze,zf,Bool.not_true,Bool.not_false,zg,zh,ne_eq,zi,zj] at c1
  refine at_skip ?_
  refine norm_then ?_
  refine at_seq ?_
  refine at_region ?_
  refine at_q rfl rfl (by decide) (qt_move rfl rfl) ?_
  refine at_q rfl rfl (by decide) (qt_assign rfl rfl) ?_
  refine at_end ?_
  refine at_retc ?_
  refine at_ret1 rfl (.tmp rfl) ?_
  intro w' hs
  exact ⟨rfl, hs.fin⟩

/-! ### Copies -/
theorem toKnot_any (k : Kn) (w : World) : Calls Try.prog 148 #[knV k] w fun e w' => e = .returned (knV k) ∧ Over w w' := by
 refine walk_from (m := 12) (Try.func148) rfl rfl (Nat.le_of_ble_eq_true rfl) ?_
 refine at_seq ?_
 refine at_region ?_
 refine at_op rfl ?_
 refine op_box rfl rfl (rfl) rfl (by decide) (fun b1 => ?_)
 refine at_rsE (by simp only [ya,yb,yc,yd,Value.cells,ye]; rfl) ?_
 refine at_op rfl ?_
 refine op_alloc rfl tyz_impl_Knot rfl (by decide) (fun b2 => ?_)
 refine at_rsE (by simp only [ya,yb,yc,yd,Value.cells,ye]; rfl) ?_
 refine at_end ?_
 refine at_seq ?_
 refine at_region ?_
 refine at_op rfl ?_
 refine op_alloc rfl tyz_impl_Knot rfl (by decide) (fun b3 => ?_)
 refine at_rsE (by simp only [ya,yb,yc,yd,Value.cells,ye]; rfl) ?_
 refine at_end ?_
 refine at_seq ?_
 refine at_region ?_
 refine at_q rfl rfl (by decide) (qt_fieldAddr rfl rfl tyf_laws_Knot_0) ?_
 refine at_q rfl rfl (by decide) (qt_loadS rfl rfl tys_laws_Pt rfl (rd2 (k := 0) rfl rfl rfl)) ?_
 refine at_q rfl rfl (by decide) (qt_call ok_laws_toPt rfl rfl (fun w1 hs => toPt_any k.1.1 k.1.2 w1)) ?_
 refine at_q rfl rfl (by decide) (qt_fieldAddr rfl rfl tyf_impl_Knot_0) ?_
 refine at_op rfl ?_
 refine op_store_3_0_2 (k := 2) rfl rfl rfl rfl (rfl) (by rfl) tyz_impl_Pt.szx rfl ?_
 refine at_rsE (by simp only [ya,yb,yc,yd,Value.cells,ye]; rfl) ?_
 refine at_end ?_
 refine at_seq ?_
 refine at_region ?_
 refine at_q rfl rfl (by decide) (qt_fieldAddr rfl rfl tyf_laws_Knot_1) ?_
 refine at_q rfl rfl (by decide) (qt_load1 rfl rfl ty1_bool (rd1 (k := 0) rfl rfl)) ?_
 refine at_q rfl rfl (by decide) (qt_fieldAddr rfl rfl tyf_impl_Knot_1) ?_
 refine at_op rfl ?_
 refine op_store_3_2_1 (k := 2) rfl rfl rfl rfl (rfl) (by rfl) tyz_bool.szx rfl ?_
 refine at_rsE (by simp only [ya,yb,yc,yd,Value.cells,ye]; rfl) ?_
 refine at_end ?_
 refine at_seq ?_
 refine at_region ?_
 refine at_q rfl rfl (by decide) (qt_loadS rfl rfl tys_impl_Knot rfl (rdAll (k := 2) rfl)) ?_
 refine at_op rfl ?_
 refine op_storeAll' (k := 1) rfl rfl rfl rfl (rfl) (by rfl) tyz_impl_Knot.szx rfl rfl rfl ?_
 refine at_rsE (by simp only [ya,yb,yc,yd,Value.cells,ye]; rfl) ?_
 refine at_end ?_
 refine at_retc ?_
 refine at_ret1 rfl (rvCelS (k := 1) rfl tys_impl_Knot rfl rfl) ?_
 intro w' hs
 exact ⟨rfl, hs.fin⟩
def knZ : List Value := [.int .i64 0, .int .i64 0, .bool false]
theorem made_kn (n : Nat) : (madeCells #[Value.int .i64 0, .int .i64 0, .bool false] (n * 3)).toList = (List.replicate n knZ).flatten := by
 have e : (List.replicate n knZ).flatten = (List.replicate n ()).flatMap (fun _ => knZ) := by rw [List.flatMap, List.map_replicate]
 rw [e]
 have hl : ((List.replicate n ()).flatMap (fun _ => knZ)).length = n * 3 := by rw [flat_len (fun _ : Unit => knZ) 3 (fun _ => rfl), List.length_replicate]
 refine List.ext_getElem? fun i => ?_
 rcases Nat.lt_or_ge i (n * 3) with hi | hi
 ·have h1 := flat_at (fun _ : Unit => knZ) 3 (fun _ => rfl) (List.replicate n ()) (i / 3) (i % 3) (by rw [List.length_replicate]; omega) (by omega)
  rw [show i / 3 * 3 + i % 3 = i by omega] at h1
  rw [h1]
  have hs : (madeCells #[Value.int .i64 0, .int .i64 0, .bool false] (n * 3)).toList[i]? = some (#[Value.int .i64 0, .int .i64 0, .bool false][i % 3]!) := by
   simp only [madeCells, Array.toList_map, Array.toList_range, List.getElem?_map, List.getElem?_range hi]
   rfl
  rw [hs]
  have : i % 3 = 0 ∨ i % 3 = 1 ∨ i % 3 = 2 := by omega
  rcases this with e | e | e <;> rw [e] <;> rfl
 ·rw [List.getElem?_eq_none (by simp [madeCells]; omega), List.getElem?_eq_none (by omega)]
theorem toKnotS_any (A : Option Addr) (n c : Nat) (l : List Kn) (w : World) (h : Kns w A n l) (hn : (n : Int) ≤ 1048576) :
  Calls Try.prog 116 #[.slice A n c] w fun e w' => ∃ g : Nat, e = .returned (.slice (some ⟨g, 0, none⟩) n n) ∧ Over w w' ∧ (Res.cel g 182 (l.flatMap knCells)).P w' ∧ (∀ b, (Res.cel g 182 (l.flatMap knCells)).F b → w.heap.size ≤ b) ∧ (Res.cel g 182 (l.flatMap knCells)).B = 0 ∧ True := by
 have hl := h.1
 refine walk_from (m := 23) (Try.func116) rfl rfl (Nat.le_of_ble_eq_true rfl) ?_
 refine at_seq ?_
 refine at_region ?_
 refine at_q rfl rfl (by decide) (qt_assign rfl rfl) ?_
 refine at_end ?_
 refine at_seq ?_
 refine at_region ?_
 refine at_q rfl rfl (by decide) (qt_move rfl rfl) ?_
 refine at_q rfl rfl (by decide) (qt_len rfl rfl tyl_sl_laws_Knot) ?_
 refine at_op rfl ?_
 refine op_make rfl rfl rfl tyl_sl_impl_Knot tyz_impl_Knot rfl (by decide) (by omega) (by omega) (fun b1 => ?_)
 refine at_rsE (by simp only [ya,yb,yc,yd,Value.cells,ye]; rfl) ?_
 refine at_q rfl rfl (by decide) (qt_assign rfl rfl) ?_
 refine at_end ?_
 refine at_seq ?_
 refine at_seq ?_
 refine at_region ?_
 refine at_q rfl rfl (by decide) (qt_assign rfl rfl) ?_
 refine at_end ?_
 refine at_block ?_
 refine at_loopc (X := Nat) (fun k => k ≤ n) (fun k => n - k) (fun k => [(4, .int .i64 (k : Int))]) (C := [(0, _), (2, _), (3, _)]) ⟨rfl, rfl, rfl, trivial⟩ (fun k => [.cel b1 182 (fillE knCells knZ l k)]) 0 (Nat.zero_le _) ⟨rfl, rfl, rfl, rfl, trivial⟩ (fun _ h => h.upto ⟨by rw [fillE_zero, made_kn, hl], trivial⟩) ?_
 intro k hk L hL1
 refine at_envE (by simp only [ya,yb]; rfl) ?_
 refine at_rsE (by first | (dsimp only; done) | (dsimp only; rfl) | rfl) ?_
 refine at_seq ?_
 refine at_seq ?_
 refine at_region ?_
 refine at_q rfl rfl (by decide) (qt_move rfl rfl) ?_
 refine at_q rfl rfl (by decide) (qt_move rfl rfl) ?_
 refine at_q rfl rfl (by decide) (qt_len rfl rfl tyl_sl_laws_Knot) ?_
 refine at_q rfl rfl (by decide) (qt_lss rfl rfl rfl) ?_
 refine at_end ?_
 refine at_cond rfl (fun c1 => ?_) (fun c1 => ?_)
 ·try simp only [za,zb,zc,zd,ze,zf,Bool.not_true,Bool.not_false,zg,zh,ne_eq,zi,zj] at c1
  have hlt : k < n := (by omega)
  obtain ⟨lb, lo, rfl, hlb⟩ := h.at_ (by omega)
  refine at_skip ?_
  refine norm_then ?_
  refine at_seq ?_
  refine at_block ?_
  refine at_region ?_
  refine at_q rfl rfl (by decide) (qt_move rfl rfl) ?_
  refine at_q rfl rfl (by decide) (qt_move rfl rfl) ?_
  refine at_q rfl rfl (by decide) (qt_move rfl rfl) ?_
  refine at_q rfl rfl (by decide) (qt_move rfl rfl) ?_
  refine at_q rfl rfl (by decide) (qt_index rfl rfl rfl tyl_sl_laws_Knot (by omega)) ?_
  refine at_q rfl rfl (by decide) (qt_loadS rfl rfl tys_laws_Knot rfl (rdKn h hlt rfl)) ?_
  refine at_q rfl rfl (by decide) (qt_call ok_laws_toKnot rfl rfl (fun w1 hs => toKnot_any (kn l k) w1)) ?_
  refine at_q rfl rfl (by decide) (qt_index rfl rfl rfl tyl_sl_impl_Knot (by omega)) ?_
  refine at_op rfl ?_
  refine op_store (k := 0) (off := 0 + k * 3) (vs := knCells (kn l k)) rfl rfl rfl rfl rfl (by rfl) tyz_impl_Knot.szx rfl rfl (by rw [fillE_len knCells_len (by rfl) (by omega)]; show 0 + k * 3 + 3 ≤ l.length * 3; omega) ?_
  refine at_nil ?_
  refine norm_block ?_
  refine norm_then ?_
  refine at_region ?_
  refine at_q rfl rfl (by decide) (qt_move rfl rfl) ?_
  refine at_q rfl rfl (by decide) (qt_add rfl rfl rfl (by omega) (by omega)) ?_
  refine at_q rfl rfl (by decide) (qt_assign rfl rfl) ?_
  refine at_end ?_
  exact at_againc hL1 (k + 1) (by omega) (by omega) ⟨vi (by omega), rfl, rfl, rfl, trivial⟩ (fun _ h => h.upto ⟨congrArg (Res.cel b1 _) (fillE_step knCells_len (by rfl) (kn_get (show k < l.length by omega)) rfl).symm, trivial⟩)
 ·try simp only [za,zb,zc,zd,ze,zf,Bool.not_true,Bool.not_false,zg,zh,ne_eq,zi,zj] at c1
  have hkn : k = l.length := (by omega)
  rw [hkn, fillE_end]
  refine at_exit ?_
  refine pass_then (fun h => by cases h) ?_
  refine pass_then (fun h => by cases h) ?_
  refine pass_hit ?_
  refine norm_then ?_
  refine at_seq ?_
  refine at_region ?_
  refine at_q rfl rfl (by decide) (qt_move rfl rfl) ?_
  refine at_q rfl rfl (by decide) (qt_assign rfl rfl) ?_
  refine at_end ?_
  refine at_retc ?_
  refine at_ret1 rfl (.tmp rfl) ?_
  intro w' hs
  exact ⟨b1, rfl, hs.fin, hs.cel (k := 0) rfl, fun b hb => ((hs.all 0 _ rfl).2.1 b hb).elim id (fun h => by cases h), rfl, trivial⟩
theorem toLoop_any (A : Option Addr) (n c : Nat) (l : List Kn) (w : World) (h : Kns w A n l) (hn : (n : Int) ≤ 1048576) :
  Calls Try.prog 74 #[outV A n c] w fun e w' => ∃ g : Nat, e = .returned (outV (some ⟨g, 0, none⟩) n n) ∧ Over w w' ∧ (Res.cel g 182 (l.flatMap knCells)).P w' ∧ (∀ b, (Res.cel g 182 (l.flatMap knCells)).F b → w.heap.size ≤ b) ∧ (Res.cel g 182 (l.flatMap knCells)).B = 0 ∧ True := by
 refine walk_from (m := 9) (Try.func74) rfl rfl (Nat.le_of_ble_eq_true rfl) ?_
 refine at_seq ?_
 refine at_region ?_
 refine at_op rfl ?_
 refine op_box rfl rfl (rfl) rfl (by decide) (fun b1 => ?_)
 refine at_rsE (by simp only [ya,yb,yc,yd,Value.cells,ye]; rfl) ?_
 refine at_op rfl ?_
 refine op_alloc rfl tyz_impl_Loop rfl (by decide) (fun b2 => ?_)
 refine at_rsE (by simp only [ya,yb,yc,yd,Value.cells,ye]; rfl) ?_
 refine at_end ?_
 refine at_seq ?_
 refine at_region ?_
 refine at_op rfl ?_
 refine op_alloc rfl tyz_impl_Loop rfl (by decide) (fun b3 => ?_)
 refine at_rsE (by simp only [ya,yb,yc,yd,Value.cells,ye]; rfl) ?_
 refine at_end ?_
 refine at_seq ?_
 refine at_region ?_
 refine at_q rfl rfl (by decide) (qt_fieldAddr rfl rfl tyf_laws_Loop_0) ?_
 refine at_q rfl rfl (by decide) (qt_load1 rfl rfl ty1_sl_laws_Knot (rd1 (k := 0) rfl rfl)) ?_
 refine at_op rfl ?_
 refine op_call ok_laws_toKnotS (X := Nat) (v := fun g => .slice (some ⟨g, 0, none⟩) n n) (r := fun g => Res.cel g 182 (l.flatMap knCells)) (H := fun _ => True) rfl rfl rfl (by decide) (fun w1 hs => toKnotS_any A n _ l w1 (h.over hs.fin) hn) ?_
 rintro g -
 refine at_rsE (by simp only [ya,yb,yc,yd,Value.cells,ye]; rfl) ?_
 refine at_q rfl rfl (by decide) (qt_fieldAddr rfl rfl tyf_impl_Loop_0) ?_
 refine at_op rfl ?_
 refine op_storeAll' (k := 2) rfl rfl rfl rfl (rfl) (by rfl) tyz_sl_impl_Knot.szx rfl rfl rfl ?_
 refine at_rsE (by simp only [ya,yb,yc,yd,Value.cells,ye]; rfl) ?_
 refine at_end ?_
 refine at_seq ?_
 refine at_region ?_
 refine at_q rfl rfl (by decide) (qt_loadS rfl rfl tys_impl_Loop rfl (rdAll (k := 2) rfl)) ?_
 refine at_op rfl ?_
 refine op_storeAll' (k := 1) rfl rfl rfl rfl (rfl) (by rfl) tyz_impl_Loop.szx rfl rfl rfl ?_
 refine at_rsE (by simp only [ya,yb,yc,yd,Value.cells,ye]; rfl) ?_
 refine at_end ?_
 refine at_retc ?_
 refine at_ret1 rfl (rvCelS (k := 1) rfl tys_impl_Loop rfl rfl) ?_
 intro w' hs
 exact ⟨g, rfl, hs.fin, hs.cel (k := 3) rfl, fun b hb => ((hs.all 3 _ rfl).2.1 b hb).elim id (fun h => by cases h), rfl, trivial⟩
/-- A loop copied. -/
structure Pk where
 blk : Nat
 l : List Kn
def Pk.val (e : Pk) : Value := .slice (some ⟨e.blk, 0, none⟩) e.l.length e.l.length
def Pk.res (e : Pk) : Res := .cel e.blk 182 (e.l.flatMap knCells)
abbrev pksR (L : List Pk) : Res := .many (L.map Pk.res)
abbrev olR (x : Nat × List Pk) : Res := .many [.cel x.1 93 (x.2.map Pk.val), pksR x.2]
theorem pksR_push (L : List Pk) (e : Pk) : Res.many (L.map Pk.res ++ [e.res]) = pksR (L ++ [e]) := by simp [pksR]
theorem pk_step (L : List Pk) (e : Pk) {k n : Nat} (hl : L.length = k) (hk : k < n) : (L ++ [e]).map Pk.val ++ List.replicate (n - (k + 1)) (Value.slice none 0 0) = splice (L.map Pk.val ++ List.replicate (n - k) (Value.slice none 0 0)) (0 + k * 1) [e.val] := by
 rw [show n - k = (n - (k + 1)) + 1 by omega, List.replicate_succ, show 0 + k * 1 = (L.map Pk.val).length by simp; omega]
 simp only [splice]
 rw [List.set_append_right _ _ (Nat.le_refl _), Nat.sub_self]
 simp
theorem takeL_step {ls : List (List Kn)} {k : Nat} (hk : k < ls.length) : ls.take (k + 1) = ls.take k ++ [lp ls k] := by
 rw [List.take_succ_eq_append_getElem hk, lp_at hk]
abbrev OlP (ls : List (List Kn)) (V : Nat → Value) (e : Ending) (w w' : World) : Prop := ∃ x : Nat × List Pk, e = .returned (V x.1) ∧ Over w w' ∧ (olR x).P w' ∧ (∀ b, (olR x).F b → w.heap.size ≤ b) ∧ (olR x).B = 0 ∧ x.2.map (·.l) = ls
theorem toLoopS_any (A : Option Addr) (n c : Nat) (ls : List (List Kn)) (w : World) (h : Loops w A n ls) (ht : (totK ls : Int) ≤ 1048576) :
  Calls Try.prog 40 #[.slice A n c] w fun e w' => OlP ls (fun g => .slice (some ⟨g, 0, none⟩) n n) e w w' := by
 have hln := h.1
 have hn : (n : Int) ≤ 1048576 := by unfold totK at ht; omega
 refine walk_from (m := 23) (Try.func40) rfl rfl (Nat.le_of_ble_eq_true rfl) ?_
 refine at_seq ?_
 refine at_region ?_
 refine at_q rfl rfl (by decide) (qt_assign rfl rfl) ?_
 refine at_end ?_
 refine at_seq ?_
 refine at_region ?_
 refine at_q rfl rfl (by decide) (qt_move rfl rfl) ?_
 refine at_q rfl rfl (by decide) (qt_len rfl rfl tyl_sl_laws_Loop) ?_
 refine at_op rfl ?_
 refine op_make rfl rfl rfl tyl_sl_impl_Loop tyz_impl_Loop rfl (by decide) (by omega) (by omega) (fun b1 => ?_)
 refine at_rsE (by simp only [ya,yb,yc,yd,Value.cells,ye]; rfl) ?_
 refine at_q rfl rfl (by decide) (qt_assign rfl rfl) ?_
 refine at_many0 ?_
 refine at_rsE (by simp only [ya,yb,yc,yd,Value.cells,ye]; rfl) ?_
 refine at_end ?_
 refine at_seq ?_
 refine at_seq ?_
 refine at_region ?_
 refine at_q rfl rfl (by decide) (qt_assign rfl rfl) ?_
 refine at_end ?_
 refine at_block ?_
 refine at_loopc (X := Nat × List Pk) (fun x => x.1 ≤ n ∧ x.2.map (·.l) = ls.take x.1) (fun x => n - x.1) (fun x => [(4, .int .i64 (x.1 : Int))]) (C := [(0, _), (2, _), (3, _)]) ⟨rfl, rfl, rfl, trivial⟩ (fun x => [.cel b1 93 (x.2.map Pk.val ++ List.replicate (n - x.1) (.slice none 0 0)), pksR x.2]) (0, []) (⟨Nat.zero_le _, rfl⟩) ⟨rfl, rfl, rfl, rfl, trivial⟩ (fun _ h => h.upto ⟨by rw [made_nil]; rfl, rfl, trivial⟩) ?_
 intro ⟨k, L0⟩ hx L hL1
 refine at_envE (by simp only [ya,yb]; rfl) ?_
 refine at_rsE (by first | (dsimp only; done) | (dsimp only; rfl) | rfl) ?_
 have hk : k ≤ n := hx.1
 have hmp : L0.map (·.l) = ls.take k := hx.2
 have hlk : L0.length = k := by have := congrArg List.length hmp; rw [List.length_map, List.length_take] at this; omega
 refine at_seq ?_
 refine at_seq ?_
 refine at_region ?_
 refine at_q rfl rfl (by decide) (qt_move rfl rfl) ?_
 refine at_q rfl rfl (by decide) (qt_move rfl rfl) ?_
 refine at_q rfl rfl (by decide) (qt_len rfl rfl tyl_sl_laws_Loop) ?_
 refine at_q rfl rfl (by decide) (qt_lss rfl rfl rfl) ?_
 refine at_end ?_
 refine at_cond rfl (fun c1 => ?_) (fun c1 => ?_)
 ·try simp only [za,zb,zc,zd,ze,zf,Bool.not_true,Bool.not_false,zg,zh,ne_eq,zi,zj] at c1
  have hlt : k < n := (by omega)
  obtain ⟨bb, oo, Ak, ck, rfl, hbB, hcell, hkns, hmax⟩ := h.at_ hlt
  have hr : ((lp ls k).length : Int) ≤ 1048576 := by have := lp_le (ls := ls) (k := k) (by omega); omega
  refine at_skip ?_
  refine norm_then ?_
  refine at_seq ?_
  refine at_block ?_
  refine at_region ?_
  refine at_q rfl rfl (by decide) (qt_move rfl rfl) ?_
  refine at_q rfl rfl (by decide) (qt_move rfl rfl) ?_
  refine at_q rfl rfl (by decide) (qt_move rfl rfl) ?_
  refine at_q rfl rfl (by decide) (qt_move rfl rfl) ?_
  refine at_q rfl rfl (by decide) (qt_index rfl rfl rfl tyl_sl_laws_Loop (by omega)) ?_
  refine at_q rfl rfl (by decide) (qt_loadS rfl rfl tys_laws_Loop rfl (rdOld1 hcell hbB)) ?_
  refine at_op rfl ?_
  refine op_call ok_laws_toLoop (X := Nat) (v := fun g => .agg #[(Pk.mk g (lp ls k)).val]) (r := fun g => (Pk.mk g (lp ls k)).res) (H := fun _ => True) rfl rfl rfl (by decide) (fun w1 hs => toLoop_any Ak _ ck (lp ls k) w1 (hkns.over hs.fin) hr) ?_
  rintro pg -
  refine at_rsE (by simp only [ya,yb,yc,yd,Value.cells,ye]; rfl) ?_
  refine at_q rfl rfl (by decide) (qt_index rfl rfl rfl tyl_sl_impl_Loop (by omega)) ?_
  refine at_op rfl ?_
  refine op_store (k := 0) rfl rfl rfl rfl rfl (by rfl) tyz_impl_Loop.szx rfl rfl (by simp; omega) ?_
  refine at_nil ?_
  refine at_push 1 2 rfl rfl (by decide) rfl ?_
  refine at_rsE (by simp only [List.nil_append, List.cons_append, List.set_cons_zero, List.set_cons_succ, List.eraseIdx_cons_zero, List.eraseIdx_cons_succ, Value.cells, List.toList_toArray]; rfl) ?_
  refine norm_block ?_
  refine norm_then ?_
  refine at_region ?_
  refine at_q rfl rfl (by decide) (qt_move rfl rfl) ?_
  refine at_q rfl rfl (by decide) (qt_add rfl rfl rfl (by omega) (by omega)) ?_
  refine at_q rfl rfl (by decide) (qt_assign rfl rfl) ?_
  refine at_end ?_
  exact at_againc hL1 ((k + 1, L0 ++ [⟨pg, lp ls k⟩])) (⟨show k + 1 ≤ n by omega, by rw [List.map_append, hmp, takeL_step (by omega)]; rfl⟩) (by simp only; omega) ⟨vi (by omega), rfl, rfl, rfl, trivial⟩ (fun _ h => h.upto ⟨by rw [← pk_step L0 _ hlk hlt], (pksR_push _ _).symm, trivial⟩)
 ·try simp only [za,zb,zc,zd,ze,zf,Bool.not_true,Bool.not_false,zg,zh,ne_eq,zi,zj] at c1
  have hkn : k = n := (by omega)
  refine at_exit ?_
  refine pass_then (fun h => by cases h) ?_
  refine pass_then (fun h => by cases h) ?_
  refine pass_hit ?_
  refine norm_then ?_
  refine at_seq ?_
  refine at_region ?_
  refine at_q rfl rfl (by decide) (qt_move rfl rfl) ?_
  refine at_q rfl rfl (by decide) (qt_assign rfl rfl) ?_
  refine at_end ?_
  refine at_retc ?_
  refine at_ret1 rfl (.tmp rfl) ?_
  intro w' hs
  subst hkn
  have hrs : L0.map (·.l) = ls := by rw [hmp, List.take_of_length_le (by omega)]
  have h1 := hs.all 0 _ rfl
  have h2 := hs.all 1 _ rfl
  rw [Nat.sub_self, List.replicate_zero, List.append_nil] at h1
  refine ⟨(b1, L0), rfl, hs.fin, many2 h1.1 h2.1 rfl rfl (fun b hb => hs.apart 0 1 _ _ (by decide) rfl rfl b hb), fun b hb => ?_, rfl, hrs⟩
  obtain ⟨r, hr, hb⟩ := hb
  simp only [List.mem_cons, List.not_mem_nil, or_false] at hr
  rcases hr with rfl | rfl
  ·exact (h1.2.1 b hb).elim id (fun h => by cases h)
  ·exact (h2.2.1 b hb).elim id (fun h => by cases h)
theorem toOutline_any (A : Option Addr) (n c : Nat) (ls : List (List Kn)) (w : World) (h : Loops w A n ls) (ht : (totK ls : Int) ≤ 1048576) :
  Calls Try.prog 13 #[outV A n c] w fun e w' => OlP ls (fun g => outV (some ⟨g, 0, none⟩) n n) e w w' := by
 refine walk_from (m := 9) (Try.func13) rfl rfl (Nat.le_of_ble_eq_true rfl) ?_
 refine at_seq ?_
 refine at_region ?_
 refine at_op rfl ?_
 refine op_box rfl rfl (rfl) rfl (by decide) (fun b1 => ?_)
 refine at_rsE (by simp only [ya,yb,yc,yd,Value.cells,ye]; rfl) ?_
 refine at_op rfl ?_
 refine op_alloc rfl tyz_impl_Outline rfl (by decide) (fun b2 => ?_)
 refine at_rsE (by simp only [ya,yb,yc,yd,Value.cells,ye]; rfl) ?_
 refine at_end ?_
 refine at_seq ?_
 refine at_region ?_
 refine at_op rfl ?_
 refine op_alloc rfl tyz_impl_Outline rfl (by decide) (fun b3 => ?_)
 refine at_rsE (by simp only [ya,yb,yc,yd,Value.cells,ye]; rfl) ?_
 refine at_end ?_
 refine at_seq ?_
 refine at_region ?_
 refine at_q rfl rfl (by decide) (qt_fieldAddr rfl rfl tyf_laws_Outline_0) ?_
 refine at_q rfl rfl (by decide) (qt_load1 rfl rfl ty1_sl_laws_Loop (rd1 (k := 0) rfl rfl)) ?_
 refine at_op rfl ?_
 refine op_call ok_laws_toLoopS (X := Nat × List Pk) (v := fun x => .slice (some ⟨x.1, 0, none⟩) n n) (r := fun x => olR x) (H := fun x => x.2.map (·.l) = ls) rfl rfl rfl (by decide) (fun w1 hs => toLoopS_any A n _ ls w1 (h.over hs.fin) ht) ?_
 rintro ⟨g, L0⟩ hL
 refine at_rsE (by simp only [ya,yb,yc,yd,Value.cells,ye]; rfl) ?_
 refine at_q rfl rfl (by decide) (qt_fieldAddr rfl rfl tyf_impl_Outline_0) ?_
 refine at_op rfl ?_
 refine op_storeAll' (k := 2) rfl rfl rfl rfl (rfl) (by rfl) tyz_sl_impl_Loop.szx rfl rfl rfl ?_
 refine at_rsE (by simp only [ya,yb,yc,yd,Value.cells,ye]; rfl) ?_
 refine at_end ?_
 refine at_seq ?_
 refine at_region ?_
 refine at_q rfl rfl (by decide) (qt_loadS rfl rfl tys_impl_Outline rfl (rdAll (k := 2) rfl)) ?_
 refine at_op rfl ?_
 refine op_storeAll' (k := 1) rfl rfl rfl rfl (rfl) (by rfl) tyz_impl_Outline.szx rfl rfl rfl ?_
 refine at_rsE (by simp only [ya,yb,yc,yd,Value.cells,ye]; rfl) ?_
 refine at_end ?_
 refine at_retc ?_
 refine at_ret1 rfl (rvCelS (k := 1) rfl tys_impl_Outline rfl rfl) ?_
 intro w' hs
 exact ⟨(g, L0), rfl, hs.fin, (hs.all 3 _ rfl).1, fun b hb => ((hs.all 3 _ rfl).2.1 b hb).elim id (fun h => by cases h), rfl, hL⟩
section
variable {w0 : Bs} {Rs : List Res} {k n : Nat} {x : Nat × List Pk} {ls : List (List Kn)}
theorem olP {w : World} (hP : (olR x).P w) (hL : x.2.map (·.l) = ls) (hn : ls.length = n) (ht : (totK ls : Int) ≤ 1048576) : Loops w (some ⟨x.1, 0, none⟩) n ls := by
 subst hn
 have h1 : (Res.cel x.1 93 (x.2.map Pk.val)).P w := (hP.1 _ (by simp)).1
 have h2 : (pksR x.2).P w := (hP.1 _ (by simp)).1
 have hlen : ls.length = x.2.length := by rw [← hL, List.length_map]
 refine ⟨rfl, fun hn => ⟨x.1, 0, rfl, lt_of_some h1, fun j hj => ?_⟩⟩
 have hj' : j < x.2.length := by omega
 have e : lp ls j = (x.2[j]).l := by
  rw [← lp_at hj]
  simp [← hL]
 have h3 : (x.2[j]).res.P w := (h2.1 _ (List.mem_map.2 ⟨_, List.getElem_mem hj', rfl⟩)).1
 refine ⟨some ⟨(x.2[j]).blk, 0, none⟩, (x.2[j]).l.length, ?_, ?_, ?_⟩
 ·rw [Nat.zero_add, cell_of_row w x.1 _ _ 93 (0, 0) h1, List.getElem?_toArray, List.getElem?_map, List.getElem?_eq_getElem hj', e]
  rfl
 ·rw [e]
  exact Els.cel h3 knCells_len rfl
 ·have := lp_le hj
  omega
theorem olLoops (hk : Rs[k]? = some (olR x)) (hL : x.2.map (·.l) = ls) (hn : ls.length = n) (ht : (totK ls : Int) ≤ 1048576) : ∀ w, St w0 Rs w → Loops w (some ⟨x.1, 0, none⟩) n ls := fun w hs => olP (hs.all k _ hk).1 hL hn ht
end

/-! ### Comparing -/
theorem eqKnot_self (k : Kn) (w : World) : Calls Try.prog 151 #[knV k, knV k] w fun e w' => e = .returned (.bool true) ∧ Over w w' := by
 have key : ∀ (p : Pn) (w1 : World), Calls Try.prog 58 #[pV p, pV p] w1 fun e w' => e = .returned (.bool true) ∧ Over w1 w' := fun p w1 => by
  refine (eqPt_any p.1 p.2 p.1 p.2 w1).mono ?_
  rintro e w' ⟨rfl, h⟩
  exact ⟨by simp, h⟩
 refine walk_from (m := 16) (Try.func151) rfl rfl (Nat.le_of_ble_eq_true rfl) ?_
 refine at_seq ?_
 refine at_region ?_
 refine at_op rfl ?_
 refine op_box rfl rfl (rfl) rfl (by decide) (fun b1 => ?_)
 refine at_rsE (by simp only [ya,yb,yc,yd,Value.cells,ye]; rfl) ?_
 refine at_op rfl ?_
 refine op_box rfl rfl (rfl) rfl (by decide) (fun b2 => ?_)
 refine at_rsE (by simp only [ya,yb,yc,yd,Value.cells,ye]; rfl) ?_
 refine at_q rfl rfl (by decide) (qt_assign rfl rfl) ?_
 refine at_end ?_
 refine at_seq ?_
 refine at_seq ?_
 refine at_region ?_
 refine at_q rfl rfl (by decide) (qt_fieldAddr rfl rfl tyf_impl_Knot_0) ?_
 refine at_q rfl rfl (by decide) (qt_loadS rfl rfl tys_impl_Pt rfl (rd2 (k := 0) rfl rfl rfl)) ?_
 refine at_q rfl rfl (by decide) (qt_fieldAddr rfl rfl tyf_impl_Knot_0) ?_
 refine at_q rfl rfl (by decide) (qt_loadS rfl rfl tys_impl_Pt rfl (rd2 (k := 1) rfl rfl rfl)) ?_
 refine at_q rfl rfl (by decide) (qt_call ok_laws_eqPt rfl rfl (fun w1 hs => key k.1 w1)) ?_
 refine at_q rfl rfl (by decide) (qt_not rfl rfl) ?_
 refine at_end ?_
 refine at_no rfl (rfl) ?_
 refine at_skip ?_
 refine norm_then ?_
 refine at_seq ?_
 refine at_seq ?_
 refine at_region ?_
 refine at_q rfl rfl (by decide) (qt_fieldAddr rfl rfl tyf_impl_Knot_1) ?_
 refine at_q rfl rfl (by decide) (qt_load1 rfl rfl ty1_bool (rd1 (k := 0) rfl rfl)) ?_
 refine at_q rfl rfl (by decide) (qt_fieldAddr rfl rfl tyf_impl_Knot_1) ?_
 refine at_q rfl rfl (by decide) (qt_load1 rfl rfl ty1_bool (rd1 (k := 1) rfl rfl)) ?_
 refine at_q rfl rfl (by decide) (qt_neqB tyb_bool rfl rfl rfl) ?_
 refine at_end ?_
 refine at_no rfl ((by simp)) ?_
 refine at_skip ?_
 refine norm_then ?_
 refine at_seq ?_
 refine at_region ?_
 refine at_q rfl rfl (by decide) (qt_assign rfl rfl) ?_
 refine at_end ?_
 refine at_retc ?_
 refine at_ret1 rfl (.tmp rfl) ?_
 intro w' hs
 exact ⟨rfl, hs.fin⟩
theorem eqKnotS_same (A B : Option Addr) (n c d : Nat) (l : List Kn) (w : World) (h : Kns w A n l) (h2 : Kns w B n l) (hn : (n : Int) ≤ 9223372036854775807) :
  Calls Try.prog 126 #[.slice A n c, .slice B n d] w fun e w' => e = .returned (.bool true) ∧ Over w w' := by
 refine walk_from (m := 27) (Try.func126) rfl rfl (Nat.le_of_ble_eq_true rfl) ?_
 refine at_seq ?_
 refine at_region ?_
 refine at_q rfl rfl (by decide) (qt_assign rfl rfl) ?_
 refine at_end ?_
 refine at_seq ?_
 refine at_seq ?_
 refine at_region ?_
 refine at_q rfl rfl (by decide) (qt_move rfl rfl) ?_
 refine at_q rfl rfl (by decide) (qt_len rfl rfl tyl_sl_impl_Knot) ?_
 refine at_q rfl rfl (by decide) (qt_move rfl rfl) ?_
 refine at_q rfl rfl (by decide) (qt_len rfl rfl tyl_sl_impl_Knot) ?_
 refine at_q rfl rfl (by decide) (qt_neq rfl rfl rfl) ?_
 refine at_end ?_
 refine at_no rfl (neSelf _) ?_
 refine at_skip ?_
 refine norm_then ?_
 refine at_seq ?_
 refine at_seq ?_
 refine at_region ?_
 refine at_q rfl rfl (by decide) (qt_assign rfl rfl) ?_
 refine at_end ?_
 refine at_block ?_
 refine at_loopk (X := Nat) (fun k => k ≤ n) (fun k => n - k) (fun k => [(5, .int .i64 (k : Int))]) (C := [(0, _), (1, _), (4, _)]) ⟨rfl, rfl, rfl, trivial⟩ 0 (Nat.zero_le _) ⟨rfl, rfl, rfl, rfl, trivial⟩ ?_
 intro k hk L hL1
 refine at_envE (by simp only [ya,yb]; rfl) ?_
 refine at_seq ?_
 refine at_seq ?_
 refine at_region ?_
 refine at_q rfl rfl (by decide) (qt_move rfl rfl) ?_
 refine at_q rfl rfl (by decide) (qt_move rfl rfl) ?_
 refine at_q rfl rfl (by decide) (qt_len rfl rfl tyl_sl_impl_Knot) ?_
 refine at_q rfl rfl (by decide) (qt_lss rfl rfl rfl) ?_
 refine at_end ?_
 refine at_cond rfl (fun c1 => ?_) (fun c1 => ?_)
 ·try simp only [za,zb,zc,zd,ze,zf,Bool.not_true,Bool.not_false,zg,zh,ne_eq,zi,zj] at c1
  have hlt : k < n := (by omega)
  obtain ⟨fb, fo, rfl, hfb⟩ := h.at_ (by omega)
  obtain ⟨gb, go, rfl, hgb⟩ := h2.at_ (by omega)
  refine at_skip ?_
  refine norm_then ?_
  refine at_seq ?_
  refine at_block ?_
  refine at_seq ?_
  refine dg_start mixed rfl ?_
  refine dg_phase 10 ?_
  refine dg_q (i := 0) rfl (by kernel_rfl) (by kernel_rfl) (by kernel_rfl) [] (by kernel_rfl) (fun _ _ _ h => h) rfl rfl (by decide) (fun _ h => h.upto trivial) (qt_move rfl rfl) ?_
  refine dg_q (i := 1) rfl (by kernel_rfl) (by kernel_rfl) (by kernel_rfl) [] (by kernel_rfl) (fun _ _ _ h => h) rfl rfl (by decide) (fun _ h => h.upto trivial) (qt_move rfl rfl) ?_
  refine dg_q (i := 2) rfl (by kernel_rfl) (by kernel_rfl) (by kernel_rfl) [] (by kernel_rfl) (fun _ _ _ h => h) rfl rfl (by decide) (fun _ h => h.upto trivial) (qt_index rfl rfl rfl tyl_sl_impl_Knot (by omega)) ?_
  refine dg_q (i := 3) rfl (by kernel_rfl) (by kernel_rfl) (by kernel_rfl) [] (by kernel_rfl) (fun _ _ _ h => h) rfl rfl (by decide) (fun _ h => h.upto trivial) (qt_loadS rfl rfl tys_impl_Knot rfl (rdKn h hlt rfl)) ?_
  refine dg_q (i := 4) rfl (by kernel_rfl) (by kernel_rfl) (by kernel_rfl) [] (by kernel_rfl) (fun _ _ _ h => h) rfl rfl (by decide) (fun _ h => h.upto trivial) (qt_move rfl rfl) ?_
  refine dg_q (i := 5) rfl (by kernel_rfl) (by kernel_rfl) (by kernel_rfl) [] (by kernel_rfl) (fun _ _ _ h => h) rfl rfl (by decide) (fun _ h => h.upto trivial) (qt_move rfl rfl) ?_
  refine dg_q (i := 6) rfl (by kernel_rfl) (by kernel_rfl) (by kernel_rfl) [] (by kernel_rfl) (fun _ _ _ h => h) rfl rfl (by decide) (fun _ h => h.upto trivial) (qt_index rfl rfl rfl tyl_sl_impl_Knot (by omega)) ?_
  refine dg_q (i := 7) rfl (by kernel_rfl) (by kernel_rfl) (by kernel_rfl) [] (by kernel_rfl) (fun _ _ _ h => h) rfl rfl (by decide) (fun _ h => h.upto trivial) (qt_loadS rfl rfl tys_impl_Knot rfl (rdKn h2 hlt rfl)) ?_
  refine dg_q (i := 8) rfl (by kernel_rfl) (by kernel_rfl) (by kernel_rfl) [] (by kernel_rfl) (fun _ _ _ h => h) rfl rfl (by decide) (fun _ h => h.upto trivial) (qt_call ok_laws_eqKnot rfl rfl (fun w1 hs => eqKnot_self (kn l k) w1)) ?_
  refine dg_q (i := 9) rfl (by kernel_rfl) (by kernel_rfl) (by kernel_rfl) [] (by kernel_rfl) (fun _ _ _ h => h) rfl rfl (by decide) (fun _ h => h.upto trivial) (qt_not rfl rfl) ?_
  refine dg_done (by kernel_rfl) ?_
  refine norm_then ?_
  refine at_no rfl (rfl) ?_
  refine at_skip ?_
  refine norm_block ?_
  refine norm_then ?_
  refine at_region ?_
  refine at_q rfl rfl (by decide) (qt_move rfl rfl) ?_
  refine at_q rfl rfl (by decide) (qt_add rfl rfl rfl (by omega) (by omega)) ?_
  refine at_q rfl rfl (by decide) (qt_assign rfl rfl) ?_
  refine at_end ?_
  exact at_againk hL1 (k + 1) (by omega) (by omega) ⟨vi (by omega), rfl, rfl, rfl, trivial⟩ (fun _ h => h.upto trivial)
 ·try simp only [za,zb,zc,zd,ze,zf,Bool.not_true,Bool.not_false,zg,zh,ne_eq,zi,zj] at c1
  refine at_exit ?_
  refine pass_then (fun h => by cases h) ?_
  refine pass_then (fun h => by cases h) ?_
  refine pass_hit ?_
  refine norm_then ?_
  refine at_seq ?_
  refine at_region ?_
  refine at_q rfl rfl (by decide) (qt_assign rfl rfl) ?_
  refine at_end ?_
  refine at_retc ?_
  refine at_ret1 rfl (.tmp rfl) ?_
  intro w' hs
  exact ⟨rfl, hs.fin⟩
theorem eqLoop_same (A B : Option Addr) (n c d : Nat) (l : List Kn) (w : World) (h : Kns w A n l) (h2 : Kns w B n l) (hn : (n : Int) ≤ 9223372036854775807) :
  Calls Try.prog 80 #[outV A n c, outV B n d] w fun e w' => e = .returned (.bool true) ∧ Over w w' := by
 refine walk_from (m := 11) (Try.func80) rfl rfl (Nat.le_of_ble_eq_true rfl) ?_
 refine at_seq ?_
 refine at_region ?_
 refine at_op rfl ?_
 refine op_box rfl rfl (rfl) rfl (by decide) (fun b1 => ?_)
 refine at_rsE (by simp only [ya,yb,yc,yd,Value.cells,ye]; rfl) ?_
 refine at_op rfl ?_
 refine op_box rfl rfl (rfl) rfl (by decide) (fun b2 => ?_)
 refine at_rsE (by simp only [ya,yb,yc,yd,Value.cells,ye]; rfl) ?_
 refine at_q rfl rfl (by decide) (qt_assign rfl rfl) ?_
 refine at_end ?_
 refine at_seq ?_
 refine at_seq ?_
 refine at_region ?_
 refine at_q rfl rfl (by decide) (qt_fieldAddr rfl rfl tyf_impl_Loop_0) ?_
 refine at_q rfl rfl (by decide) (qt_load1 rfl rfl ty1_sl_impl_Knot (rd1 (k := 0) rfl rfl)) ?_
 refine at_q rfl rfl (by decide) (qt_fieldAddr rfl rfl tyf_impl_Loop_0) ?_
 refine at_q rfl rfl (by decide) (qt_load1 rfl rfl ty1_sl_impl_Knot (rd1 (k := 1) rfl rfl)) ?_
 refine at_q rfl rfl (by decide) (qt_call ok_laws_eqKnotS rfl rfl (fun w1 hs => eqKnotS_same A B n _ _ l w1 (h.over hs.fin) (h2.over hs.fin) hn)) ?_
 refine at_q rfl rfl (by decide) (qt_not rfl rfl) ?_
 refine at_end ?_
 refine at_no rfl (rfl) ?_
 refine at_skip ?_
 refine norm_then ?_
 refine at_seq ?_
 refine at_region ?_
 refine at_q rfl rfl (by decide) (qt_assign rfl rfl) ?_
 refine at_end ?_
 refine at_retc ?_
 refine at_ret1 rfl (.tmp rfl) ?_
 intro w' hs
 exact ⟨rfl, hs.fin⟩
theorem eqLoopS_same (A B : Option Addr) (n c d : Nat) (ls : List (List Kn)) (w : World) (h : Loops w A n ls) (h2 : Loops w B n ls) (hn : (n : Int) ≤ 9223372036854775807) :
  Calls Try.prog 44 #[.slice A n c, .slice B n d] w fun e w' => e = .returned (.bool true) ∧ Over w w' := by
 refine walk_from (m := 27) (Try.func44) rfl rfl (Nat.le_of_ble_eq_true rfl) ?_
 refine at_seq ?_
 refine at_region ?_
 refine at_q rfl rfl (by decide) (qt_assign rfl rfl) ?_
 refine at_end ?_
 refine at_seq ?_
 refine at_seq ?_
 refine at_region ?_
 refine at_q rfl rfl (by decide) (qt_move rfl rfl) ?_
 refine at_q rfl rfl (by decide) (qt_len rfl rfl tyl_sl_impl_Loop) ?_
 refine at_q rfl rfl (by decide) (qt_move rfl rfl) ?_
 refine at_q rfl rfl (by decide) (qt_len rfl rfl tyl_sl_impl_Loop) ?_
 refine at_q rfl rfl (by decide) (qt_neq rfl rfl rfl) ?_
 refine at_end ?_
 refine at_no rfl (neSelf _) ?_
 refine at_skip ?_
 refine norm_then ?_
 refine at_seq ?_
 refine at_seq ?_
 refine at_region ?_
 refine at_q rfl rfl (by decide) (qt_assign rfl rfl) ?_
 refine at_end ?_
 refine at_block ?_
 refine at_loopk (X := Nat) (fun k => k ≤ n) (fun k => n - k) (fun k => [(5, .int .i64 (k : Int))]) (C := [(0, _), (1, _), (4, _)]) ⟨rfl, rfl, rfl, trivial⟩ 0 (Nat.zero_le _) ⟨rfl, rfl, rfl, rfl, trivial⟩ ?_
 intro k hk L hL1
 refine at_envE (by simp only [ya,yb]; rfl) ?_
 refine at_seq ?_
 refine at_seq ?_
 refine at_region ?_
 refine at_q rfl rfl (by decide) (qt_move rfl rfl) ?_
 refine at_q rfl rfl (by decide) (qt_move rfl rfl) ?_
 refine at_q rfl rfl (by decide) (qt_len rfl rfl tyl_sl_impl_Loop) ?_
 refine at_q rfl rfl (by decide) (qt_lss rfl rfl rfl) ?_
 refine at_end ?_
 refine at_cond rfl (fun c1 => ?_) (fun c1 => ?_)
 ·try simp only [za,zb,zc,zd,ze,zf,Bool.not_true,Bool.not_false,zg,zh,ne_eq,zi,zj] at c1
  have hlt : k < n := (by omega)
  obtain ⟨fb, fo, Ak, ck, rfl, hfb, hcell, hkns, hmax⟩ := h.at_ hlt
  obtain ⟨gb, go, Bk, dk, rfl, hgb, hcell2, hkns2, hmax2⟩ := h2.at_ hlt
  refine at_skip ?_
  refine norm_then ?_
  refine at_seq ?_
  refine at_block ?_
  refine at_seq ?_
  refine dg_start mixed rfl ?_
  refine dg_phase 10 ?_
  refine dg_q (i := 0) rfl (by kernel_rfl) (by kernel_rfl) (by kernel_rfl) [] (by kernel_rfl) (fun _ _ _ h => h) rfl rfl (by decide) (fun _ h => h.upto trivial) (qt_move rfl rfl) ?_
  refine dg_q (i := 1) rfl (by kernel_rfl) (by kernel_rfl) (by kernel_rfl) [] (by kernel_rfl) (fun _ _ _ h => h) rfl rfl (by decide) (fun _ h => h.upto trivial) (qt_move rfl rfl) ?_
  refine dg_q (i := 2) rfl (by kernel_rfl) (by kernel_rfl) (by kernel_rfl) [] (by kernel_rfl) (fun _ _ _ h => h) rfl rfl (by decide) (fun _ h => h.upto trivial) (qt_index rfl rfl rfl tyl_sl_impl_Loop (by omega)) ?_
  refine dg_q (i := 3) rfl (by kernel_rfl) (by kernel_rfl) (by kernel_rfl) [] (by kernel_rfl) (fun _ _ _ h => h) rfl rfl (by decide) (fun _ h => h.upto trivial) (qt_loadS rfl rfl tys_impl_Loop rfl (rdOld1 hcell hfb)) ?_
  refine dg_q (i := 4) rfl (by kernel_rfl) (by kernel_rfl) (by kernel_rfl) [] (by kernel_rfl) (fun _ _ _ h => h) rfl rfl (by decide) (fun _ h => h.upto trivial) (qt_move rfl rfl) ?_
  refine dg_q (i := 5) rfl (by kernel_rfl) (by kernel_rfl) (by kernel_rfl) [] (by kernel_rfl) (fun _ _ _ h => h) rfl rfl (by decide) (fun _ h => h.upto trivial) (qt_move rfl rfl) ?_
  refine dg_q (i := 6) rfl (by kernel_rfl) (by kernel_rfl) (by kernel_rfl) [] (by kernel_rfl) (fun _ _ _ h => h) rfl rfl (by decide) (fun _ h => h.upto trivial) (qt_index rfl rfl rfl tyl_sl_impl_Loop (by omega)) ?_
  refine dg_q (i := 7) rfl (by kernel_rfl) (by kernel_rfl) (by kernel_rfl) [] (by kernel_rfl) (fun _ _ _ h => h) rfl rfl (by decide) (fun _ h => h.upto trivial) (qt_loadS rfl rfl tys_impl_Loop rfl (rdOld1 hcell2 hgb)) ?_
  refine dg_q (i := 8) rfl (by kernel_rfl) (by kernel_rfl) (by kernel_rfl) [] (by kernel_rfl) (fun _ _ _ h => h) rfl rfl (by decide) (fun _ h => h.upto trivial) (qt_call ok_laws_eqLoop rfl rfl (fun w1 hs => eqLoop_same Ak Bk _ ck dk (lp ls k) w1 (hkns.over hs.fin) (hkns2.over hs.fin) hmax)) ?_
  refine dg_q (i := 9) rfl (by kernel_rfl) (by kernel_rfl) (by kernel_rfl) [] (by kernel_rfl) (fun _ _ _ h => h) rfl rfl (by decide) (fun _ h => h.upto trivial) (qt_not rfl rfl) ?_
  refine dg_done (by kernel_rfl) ?_
  refine norm_then ?_
  refine at_no rfl (rfl) ?_
  refine at_skip ?_
  refine norm_block ?_
  refine norm_then ?_
  refine at_region ?_
  refine at_q rfl rfl (by decide) (qt_move rfl rfl) ?_
  refine at_q rfl rfl (by decide) (qt_add rfl rfl rfl (by omega) (by omega)) ?_
  refine at_q rfl rfl (by decide) (qt_assign rfl rfl) ?_
  refine at_end ?_
  exact at_againk hL1 (k + 1) (by omega) (by omega) ⟨vi (by omega), rfl, rfl, rfl, trivial⟩ (fun _ h => h.upto trivial)
 ·try simp only [za,zb,zc,zd,ze,zf,Bool.not_true,Bool.not_false,zg,zh,ne_eq,zi,zj] at c1
  refine at_exit ?_
  refine pass_then (fun h => by cases h) ?_
  refine pass_then (fun h => by cases h) ?_
  refine pass_hit ?_
  refine norm_then ?_
  refine at_seq ?_
  refine at_region ?_
  refine at_q rfl rfl (by decide) (qt_assign rfl rfl) ?_
  refine at_end ?_
  refine at_retc ?_
  refine at_ret1 rfl (.tmp rfl) ?_
  intro w' hs
  exact ⟨rfl, hs.fin⟩
theorem eqOutline_same (A B : Option Addr) (n c d : Nat) (ls : List (List Kn)) (w : World) (h : Loops w A n ls) (h2 : Loops w B n ls) (hn : (n : Int) ≤ 9223372036854775807) :
  Calls Try.prog 15 #[outV A n c, outV B n d] w fun e w' => e = .returned (.bool true) ∧ Over w w' := by
 refine walk_from (m := 11) (Try.func15) rfl rfl (Nat.le_of_ble_eq_true rfl) ?_
 refine at_seq ?_
 refine at_region ?_
 refine at_op rfl ?_
 refine op_box rfl rfl (rfl) rfl (by decide) (fun b1 => ?_)
 refine at_rsE (by simp only [ya,yb,yc,yd,Value.cells,ye]; rfl) ?_
 refine at_op rfl ?_
 refine op_box rfl rfl (rfl) rfl (by decide) (fun b2 => ?_)
 refine at_rsE (by simp only [ya,yb,yc,yd,Value.cells,ye]; rfl) ?_
 refine at_q rfl rfl (by decide) (qt_assign rfl rfl) ?_
 refine at_end ?_
 refine at_seq ?_
 refine at_seq ?_
 refine at_region ?_
 refine at_q rfl rfl (by decide) (qt_fieldAddr rfl rfl tyf_impl_Outline_0) ?_
 refine at_q rfl rfl (by decide) (qt_load1 rfl rfl ty1_sl_impl_Loop (rd1 (k := 0) rfl rfl)) ?_
 refine at_q rfl rfl (by decide) (qt_fieldAddr rfl rfl tyf_impl_Outline_0) ?_
 refine at_q rfl rfl (by decide) (qt_load1 rfl rfl ty1_sl_impl_Loop (rd1 (k := 1) rfl rfl)) ?_
 refine at_q rfl rfl (by decide) (qt_call ok_laws_eqLoopS rfl rfl (fun w1 hs => eqLoopS_same A B n _ _ ls w1 (h.over hs.fin) (h2.over hs.fin) hn)) ?_
 refine at_q rfl rfl (by decide) (qt_not rfl rfl) ?_
 refine at_end ?_
 refine at_no rfl (rfl) ?_
 refine at_skip ?_
 refine norm_then ?_
 refine at_seq ?_
 refine at_region ?_
 refine at_q rfl rfl (by decide) (qt_assign rfl rfl) ?_
 refine at_end ?_
 refine at_retc ?_
 refine at_ret1 rfl (.tmp rfl) ?_
 intro w' hs
 exact ⟨rfl, hs.fin⟩

/-! ### Marks -/
theorem manyK_ap {L : List Res} {w : World} (h : (Res.many L).P w) {i j : Nat} (hi : i < L.length) (hj : j < L.length) (hne : i ≠ j) (b : Nat) (h1 : (L[i]).F b) : ¬ (L[j]).F b := by
 have hp := List.pairwise_iff_getElem.1 h.2
 rcases Nat.lt_or_ge i j with hlt | hge
 ·exact hp i j hi hj hlt b h1
 ·exact fun h2 => hp j i hj hi (by omega) b h2 h1
theorem manyK_set {L : List Res} {k : Nat} {r r' : Res} {w w' : World} (h : (Res.many L).P w) (hk : L[k]? = some r) (hw : Wrs r.F w w') (hP : r'.P w') (hF : ∀ b, r'.F b → r.F b) (hB : r'.B = 0) : (Res.many (L.set k r')).P w' := by
 obtain ⟨hkl, hke⟩ := List.getElem?_eq_some_iff.1 hk
 have old : ∀ i (hi : i < L.length), i ≠ k → (L[i]).P w' ∧ (L[i]).B = 0 := fun i hi hne => by
  obtain ⟨h1, h2⟩ := h.1 _ (List.getElem_mem hi)
  refine ⟨(L[i]).dep w w' h1 hw.size fun b hb hor => hw.block b hb fun hr => ?_, h2⟩
  have h3 : (L[i]).F b := hor.elim (fun h4 => by rw [h2] at h4; omega) id
  exact manyK_ap h hi hkl hne b h3 (hke ▸ hr)
 refine ⟨fun s hs => ?_, List.pairwise_iff_getElem.2 fun i j hi hj hij b h1 h2 => ?_⟩
 ·obtain ⟨i, hi, rfl⟩ := List.getElem_of_mem hs
  rw [List.getElem_set]
  split
  ·exact ⟨hP, hB⟩
  ·exact old i (by simpa using hi) (by omega)
 ·simp only [List.length_set] at hi hj
  have e : ∀ q (hq : q < L.length) (hq2 : q < (L.set k r').length), ((L.set k r')[q]).F b → (L[q]).F b := fun q hq hq2 hb => by
   rw [List.getElem_set] at hb
   split at hb
   ·rename_i e; subst e; rw [hke]; exact hF b hb
   ·exact hb
  exact manyK_ap h hi hj (by omega) b (e i hi _ h1) (e j hj _ h2)
theorem blkK_ex {r : Res} {w : World} (h : r.P w) : ∃ X : List Nat, ∀ b, b ∈ X ↔ r.F b := by
 classical
 refine ⟨(List.range w.heap.size).filter (fun b => decide (r.F b)), fun b => ?_⟩
 rw [List.mem_filter, List.mem_range, decide_eq_true_iff]
 exact ⟨fun k => k.2, fun k => ⟨r.low w h b k, k⟩⟩
theorem wrK {b : Nat} {w w' : World} (h : Wr b w w') : Wrs (· = b) w w' := ⟨h.os, h.tape, h.output, h.size, fun c hc hn => h.block c hc hn⟩
/-- A block of cells, of whose cells only the number is told. -/
def Res.any (b T m : Nat) : Res where
 F := (· = b)
 P := fun w => ∃ cs : List Value, cs.length = m ∧ w.heap[b]? = some (.cells cs.toArray T (0, 0))
 low := fun _ ⟨_, _, h⟩ _ hk => hk ▸ lt_of_some h
 B := 0
 dep := fun _ _ ⟨cs, e, h⟩ _ hb => ⟨cs, e, (hb b (lt_of_some h) (.inr rfl)).trans h⟩
theorem markKnotS_any (b T : Nat) (n c : Nat) (m : Int) (w : World) (h : (Res.any b T (n * 3)).P w) (hm : 0 ≤ m) (hm2 : m ≤ 1000000000) (hn : n ≤ 1048576) :
  Calls Try.prog 81 #[.slice (some ⟨b, 0, none⟩) n c, .int .i64 m] w fun e w' => e = .returned (.int .i64 (m + 3 * (n : Int))) ∧ Wr b w w' ∧ (Res.any b T (n * 3)).P w' := by
 obtain ⟨cs, hl, hh⟩ := h
 refine walk_from1 (m := 38) (Try.func81) rfl rfl (Nat.le_of_ble_eq_true rfl) (hh) ?_
 refine at_seq ?_
 refine at_region ?_
 refine at_q rfl rfl (by decide) (qt_assign rfl rfl) ?_
 refine at_end ?_
 refine at_seq ?_
 refine at_seq ?_
 refine at_region ?_
 refine at_q rfl rfl (by decide) (qt_assign rfl rfl) ?_
 refine at_end ?_
 refine at_block ?_
 refine at_loopc (X := Nat × List Value) (fun x => x.1 ≤ n ∧ x.2.length = n * 3) (fun x => n - x.1) (fun x => [(1, .int .i64 (m + 3 * (x.1 : Int))), (5, .int .i64 (x.1 : Int))]) (C := [(0, _), (4, _)]) ⟨rfl, rfl, trivial⟩ (fun x => [.cel b T x.2]) (0, cs) (⟨Nat.zero_le _, hl⟩) ⟨vi (by simp), rfl, rfl, rfl, trivial⟩ (fun _ h => h) ?_
 intro ⟨k, ds⟩ hx L hL1
 refine at_envE (by simp only [ya,yb]; rfl) ?_
 refine at_rsE (by first | (dsimp only; done) | (dsimp only; rfl) | rfl) ?_
 have hk : k ≤ n := hx.1
 have hd : ds.length = n * 3 := hx.2
 refine at_seq ?_
 refine at_seq ?_
 refine at_region ?_
 refine at_q rfl rfl (by decide) (qt_move rfl rfl) ?_
 refine at_q rfl rfl (by decide) (qt_move rfl rfl) ?_
 refine at_q rfl rfl (by decide) (qt_len rfl rfl tyl_sl_impl_Knot) ?_
 refine at_q rfl rfl (by decide) (qt_lss rfl rfl rfl) ?_
 refine at_end ?_
 refine at_cond rfl (fun c1 => ?_) (fun c1 => ?_)
 ·try simp only [za,zb,zc,zd,ze,zf,Bool.not_true,Bool.not_false,zg,zh,ne_eq,zi,zj] at c1
  have hlt : k < n := (by omega)
  refine at_skip ?_
  refine norm_then ?_
  refine at_seq ?_
  refine at_block ?_
  refine at_seq ?_
  refine at_region ?_
  refine at_q rfl rfl (by decide) (qt_move rfl rfl) ?_
  refine at_q rfl rfl (by decide) (qt_move rfl rfl) ?_
  refine at_q rfl rfl (by decide) (qt_move rfl rfl) ?_
  refine at_q rfl rfl (by decide) (qt_index rfl rfl rfl tyl_sl_impl_Knot (by omega)) ?_
  refine at_q rfl rfl (by decide) (qt_fieldAddr rfl rfl tyf_impl_Knot_0) ?_
  refine at_q rfl rfl (by decide) (qt_fieldAddr rfl rfl tyf_impl_Pt_0) ?_
  refine at_op rfl ?_
  refine op_store (k := 0) (off := 0 + k * 3 + 0) rfl rfl rfl rfl rfl (by rfl) tyz_int64.szx rfl rfl (by simp only [List.length_cons, List.length_nil, splice_len, hd]; omega) ?_
  refine at_end ?_
  refine at_seq ?_
  refine at_region ?_
  refine at_q rfl rfl (by decide) (qt_move rfl rfl) ?_
  refine at_q rfl rfl (by decide) (qt_add rfl rfl rfl (by omega) (by omega)) ?_
  refine at_q rfl rfl (by decide) (qt_assign rfl rfl) ?_
  refine at_end ?_
  refine at_seq ?_
  refine at_region ?_
  refine at_q rfl rfl (by decide) (qt_move rfl rfl) ?_
  refine at_q rfl rfl (by decide) (qt_move rfl rfl) ?_
  refine at_q rfl rfl (by decide) (qt_move rfl rfl) ?_
  refine at_q rfl rfl (by decide) (qt_index rfl rfl rfl tyl_sl_impl_Knot (by omega)) ?_
  refine at_q rfl rfl (by decide) (qt_fieldAddr rfl rfl tyf_impl_Knot_0) ?_
  refine at_q rfl rfl (by decide) (qt_fieldAddr rfl rfl tyf_impl_Pt_1) ?_
  refine at_op rfl ?_
  refine op_store (k := 0) (off := 0 + k * 3 + 1) rfl rfl rfl rfl rfl (by rfl) tyz_int64.szx rfl rfl (by simp only [List.length_cons, List.length_nil, splice_len, List.length_set, hd]; omega) ?_
  refine at_end ?_
  refine at_seq ?_
  refine at_region ?_
  refine at_q rfl rfl (by decide) (qt_move rfl rfl) ?_
  refine at_q rfl rfl (by decide) (qt_add rfl rfl rfl (by omega) (by omega)) ?_
  refine at_q rfl rfl (by decide) (qt_assign rfl rfl) ?_
  refine at_end ?_
  refine at_seq ?_
  refine at_region ?_
  refine at_q rfl rfl (by decide) (qt_move rfl rfl) ?_
  refine at_q rfl rfl (by decide) (qt_move rfl rfl) ?_
  refine at_q rfl rfl (by decide) (qt_move rfl rfl) ?_
  refine at_q rfl rfl (by decide) (qt_rem rfl rfl rfl (by omega) (by omega) (by omega)) ?_
  refine at_q rfl rfl (by decide) (qt_eql rfl rfl rfl) ?_
  refine at_q rfl rfl (by decide) (qt_index rfl rfl rfl tyl_sl_impl_Knot (by omega)) ?_
  refine at_q rfl rfl (by decide) (qt_fieldAddr rfl rfl tyf_impl_Knot_1) ?_
  refine at_op rfl ?_
  refine op_store (k := 0) (off := 0 + k * 3 + 2) rfl rfl rfl rfl rfl (by rfl) tyz_bool.szx rfl rfl (by simp only [List.length_cons, List.length_nil, splice_len, List.length_set, hd]; omega) ?_
  refine at_end ?_
  refine at_region ?_
  refine at_q rfl rfl (by decide) (qt_move rfl rfl) ?_
  refine at_q rfl rfl (by decide) (qt_add rfl rfl rfl (by omega) (by omega)) ?_
  refine at_q rfl rfl (by decide) (qt_assign rfl rfl) ?_
  refine at_nil ?_
  refine norm_block ?_
  refine norm_then ?_
  refine at_region ?_
  refine at_q rfl rfl (by decide) (qt_move rfl rfl) ?_
  refine at_q rfl rfl (by decide) (qt_add rfl rfl rfl (by omega) (by omega)) ?_
  refine at_q rfl rfl (by decide) (qt_assign rfl rfl) ?_
  refine at_end ?_
  exact at_againc hL1 ((k + 1, _)) (⟨show k + 1 ≤ n by omega, by simp only [splice_len, List.length_set, hd]⟩) (by simp only; omega) ⟨vi (by simp only; omega), vi (by simp only; omega), rfl, rfl, trivial⟩ (fun _ h => h.upto ⟨rfl, trivial⟩)
 ·try simp only [za,zb,zc,zd,ze,zf,Bool.not_true,Bool.not_false,zg,zh,ne_eq,zi,zj] at c1
  have hkn : k = n := (by omega)
  refine at_exit ?_
  refine pass_then (fun h => by cases h) ?_
  refine pass_then (fun h => by cases h) ?_
  refine pass_hit ?_
  refine norm_then ?_
  refine at_seq ?_
  refine at_region ?_
  refine at_q rfl rfl (by decide) (qt_move rfl rfl) ?_
  refine at_q rfl rfl (by decide) (qt_assign rfl rfl) ?_
  refine at_end ?_
  refine at_retc ?_
  refine at_ret1 rfl (.tmp rfl) ?_
  intro w' hs
  exact ⟨retI (by rw [hkn]), hs.over.wr, ds, hd, hs.cel (k := 0) rfl⟩
abbrev wkR (x : Nat × List Pk) : Res := .many [.cel x.1 93 (x.2.map Pk.val), .many (x.2.map fun e => Res.any e.blk 182 (e.l.length * 3))]
theorem any_of {e : Pk} {w : World} (h : e.res.P w) : (Res.any e.blk 182 (e.l.length * 3)).P w := ⟨_, flat_len knCells 3 knCells_len e.l, h⟩
theorem wk_of {x : Nat × List Pk} {w : World} (h : (olR x).P w) : (wkR x).P w ∧ ∀ b, (wkR x).F b ↔ (olR x).F b := by
 have h2 : (pksR x.2).P w := (h.1 _ (by simp)).1
 have hf : ∀ b, (Res.many (x.2.map fun e => Res.any e.blk 182 (e.l.length * 3))).F b ↔ (pksR x.2).F b := fun b => by
  constructor
  ·rintro ⟨r, hr, hb⟩
   obtain ⟨e, he, rfl⟩ := List.mem_map.1 hr
   exact ⟨e.res, List.mem_map.2 ⟨e, he, rfl⟩, hb⟩
  ·rintro ⟨r, hr, hb⟩
   obtain ⟨e, he, rfl⟩ := List.mem_map.1 hr
   exact ⟨_, List.mem_map.2 ⟨e, he, rfl⟩, hb⟩
 have hp : (Res.many (x.2.map fun e => Res.any e.blk 182 (e.l.length * 3))).P w := by
  refine ⟨fun r hr => ?_, ?_⟩
  ·obtain ⟨e, he, rfl⟩ := List.mem_map.1 hr
   exact ⟨any_of (h2.1 _ (List.mem_map.2 ⟨e, he, rfl⟩)).1, rfl⟩
  ·have := h2.2
   rw [List.pairwise_map] at this ⊢
   exact this.imp fun h b hb hc => h b hb hc
 have hap : ∀ b, (Res.cel x.1 93 (x.2.map Pk.val)).F b → ¬ (pksR x.2).F b := by simpa using h.2
 refine ⟨many2 (h.1 _ (by simp)).1 hp rfl rfl fun b hb hc => hap b hb ((hf b).1 hc), fun b => ?_⟩
 constructor
 ·rintro ⟨r, hr, hb⟩
  simp only [List.mem_cons, List.not_mem_nil, or_false] at hr
  rcases hr with rfl | rfl
  ·exact ⟨_, by simp, hb⟩
  ·exact ⟨pksR x.2, by simp, (hf b).1 hb⟩
 ·rintro ⟨r, hr, hb⟩
  simp only [List.mem_cons, List.not_mem_nil, or_false] at hr
  rcases hr with rfl | rfl
  ·exact ⟨_, by simp, hb⟩
  ·exact ⟨_, by simp, (hf b).2 hb⟩
def szK (L : List Pk) : Nat → Nat
 | 0 => 0
 | k + 1 => szK L k + ((L.map (·.l)).getD k []).length
theorem szK_mono (L : List Pk) {k m : Nat} (h : k ≤ m) : szK L k ≤ szK L m := by
 induction m with
 | zero => rw [show k = 0 by omega]; exact Nat.le_refl _
 | succ m ih =>
  by_cases e : k = m + 1
  ·rw [e]; exact Nat.le_refl _
  ·have := ih (by omega)
   simp only [szK]
   omega
theorem szK_at {L : List Pk} {k : Nat} (h : k < L.length) : szK L (k + 1) = szK L k + (L[k]).l.length := by
 simp [szK, List.getD, h]
theorem wk_mark {x : Nat × List Pk} {k : Nat} {w w' : World} (h : (wkR x).P w) (hk : k < x.2.length) (hw : Wr (x.2[k]).blk w w') (hp : (Res.any (x.2[k]).blk 182 ((x.2[k]).l.length * 3)).P w') : Wrs (wkR x).F w w' ∧ (wkR x).P w' := by
 have hkr : (x.2.map fun e => Res.any e.blk 182 (e.l.length * 3))[k]? = some (Res.any (x.2[k]).blk 182 ((x.2[k]).l.length * 3)) := by rw [List.getElem?_map, List.getElem?_eq_getElem hk]; rfl
 have hpc : (Res.many (x.2.map fun e => Res.any e.blk 182 (e.l.length * 3))).P w := (h.1 _ (by simp)).1
 have hwr : Wrs (Res.any (x.2[k]).blk 182 ((x.2[k]).l.length * 3)).F w w' := wrK hw
 have hin := manyK_set hpc hkr hwr hp (fun b hb => hb) rfl
 have e1 : (x.2.map fun e => Res.any e.blk 182 (e.l.length * 3)).set k (Res.any (x.2[k]).blk 182 ((x.2[k]).l.length * 3)) = x.2.map fun e => Res.any e.blk 182 (e.l.length * 3) := by
  obtain ⟨h1, h2⟩ := List.getElem?_eq_some_iff.1 hkr
  rw [← h2, List.set_getElem_self]
 rw [e1] at hin
 have hsub : ∀ b, (Res.any (x.2[k]).blk 182 ((x.2[k]).l.length * 3)).F b → (Res.many (x.2.map fun e => Res.any e.blk 182 (e.l.length * 3))).F b := fun b hb => ⟨_, List.mem_of_getElem? hkr, hb⟩
 have hout := manyK_set (k := 1) h rfl (hwr.mono hsub) hin (fun b hb => hb) rfl
 exact ⟨hwr.mono fun b hb => ⟨_, by simp, hsub b hb⟩, hout⟩
theorem markLoopS_any (x : Nat × List Pk) (n c : Nat) (m : Int) (w : World) (h : (wkR x).P w) (hn : x.2.length = n) (hm : 0 ≤ m) (hb : m + 3 * (szK x.2 n : Nat) ≤ 1000000000) (hs2 : n + szK x.2 n ≤ 1048576) :
  Calls Try.prog 45 #[.slice (some ⟨x.1, 0, none⟩) n c, .int .i64 m] w fun e w' => e = .returned (.int .i64 (m + 3 * (szK x.2 n : Nat))) ∧ Wrs (wkR x).F w w' ∧ (wkR x).P w' := by
 obtain ⟨X, hX⟩ := blkK_ex h
 refine walk_fromR (m := 20) (X) (wkR x) (h) (fun b hb => (hX b).2 hb) rfl (Try.func45) rfl rfl (Nat.le_of_ble_eq_true rfl) ?_
 refine at_seq ?_
 refine at_region ?_
 refine at_q rfl rfl (by decide) (qt_assign rfl rfl) ?_
 refine at_end ?_
 refine at_seq ?_
 refine at_seq ?_
 refine at_region ?_
 refine at_q rfl rfl (by decide) (qt_assign rfl rfl) ?_
 refine at_end ?_
 refine at_block ?_
 refine at_loopc (X := Nat) (fun k => k ≤ n) (fun k => n - k) (fun k => [(1, .int .i64 (m + 3 * (szK x.2 k : Nat))), (5, .int .i64 (k : Int))]) (C := [(0, _), (4, _)]) ⟨rfl, rfl, trivial⟩ (fun k => [wkR x]) 0 (Nat.zero_le _) ⟨vi (by simp [szK]), rfl, rfl, rfl, trivial⟩ (fun _ h => h) ?_
 intro k hk L hL1
 refine at_envE (by simp only [ya,yb]; rfl) ?_
 refine at_rsE (by first | (dsimp only; done) | (dsimp only; rfl) | rfl) ?_
 refine at_seq ?_
 refine at_seq ?_
 refine at_region ?_
 refine at_q rfl rfl (by decide) (qt_move rfl rfl) ?_
 refine at_q rfl rfl (by decide) (qt_move rfl rfl) ?_
 refine at_q rfl rfl (by decide) (qt_len rfl rfl tyl_sl_impl_Loop) ?_
 refine at_q rfl rfl (by decide) (qt_lss rfl rfl rfl) ?_
 refine at_end ?_
 refine at_cond rfl (fun c1 => ?_) (fun c1 => ?_)
 ·try simp only [za,zb,zc,zd,ze,zf,Bool.not_true,Bool.not_false,zg,zh,ne_eq,zi,zj] at c1
  have hlt : k < n := (by omega)
  have hlx : k < x.2.length := (by omega)
  have hse := szK_at hlx
  have hmo := szK_mono x.2 (show k + 1 ≤ n by omega)
  refine at_skip ?_
  refine norm_then ?_
  refine at_seq ?_
  refine at_block ?_
  refine at_region ?_
  refine at_q rfl rfl (by decide) (qt_move rfl rfl) ?_
  refine at_q rfl rfl (by decide) (qt_move rfl rfl) ?_
  refine at_q rfl rfl (by decide) (qt_index rfl rfl rfl tyl_sl_impl_Loop (by omega)) ?_
  refine at_q rfl rfl (by decide) (qt_fieldAddr rfl rfl tyf_impl_Loop_0) ?_
  refine at_q rfl rfl (by decide) (qt_load1 rfl rfl ty1_sl_impl_Knot (fun w' hs => (by have h1 : (Res.cel x.1 93 (x.2.map Pk.val)).P w' := ((hs.all 0 _ rfl).1.1 _ (by simp)).1; rw [Nat.zero_add, Nat.mul_one, Nat.add_zero, cell_of_row w' x.1 _ _ 93 (0, 0) h1, List.getElem?_toArray, List.getElem?_map, List.getElem?_eq_getElem hlx]; rfl))) ?_
  refine at_q rfl rfl (by decide) (qt_move rfl rfl) ?_
  refine at_op rfl ?_
  refine op_callw (k := 0) (r' := wkR x) ok_laws_markKnotS rfl rfl rfl (by decide) rfl (fun w' hs => (markKnotS_any (x.2[k]).blk 182 (x.2[k]).l.length _ _ w' ((((hs.all 0 _ rfl).1.1 _ (by simp : Res.many (x.2.map fun e => Res.any e.blk 182 (e.l.length * 3)) ∈ _)).1.1 _ (List.mem_map.2 ⟨_, List.getElem_mem hlx, rfl⟩)).1) (by omega) (by omega) (by omega)).mono (by rintro e w2 ⟨rfl, hw, hp⟩; obtain ⟨q1, q2⟩ := wk_mark (hs.all 0 _ rfl).1 hlx hw hp; exact ⟨rfl, q1, q2⟩)) (fun _ h => h) rfl ?_
  refine at_rsE (by simp only [ya,yb,yc,yd,Value.cells,ye]; rfl) ?_
  refine at_q rfl rfl (by decide) (qt_assign rfl rfl) ?_
  refine at_nil ?_
  refine norm_block ?_
  refine norm_then ?_
  refine at_region ?_
  refine at_q rfl rfl (by decide) (qt_move rfl rfl) ?_
  refine at_q rfl rfl (by decide) (qt_add rfl rfl rfl (by omega) (by omega)) ?_
  refine at_q rfl rfl (by decide) (qt_assign rfl rfl) ?_
  refine at_end ?_
  exact at_againc hL1 (k + 1) (by omega) (by omega) ⟨vi (by rw [hse]; omega), vi (by omega), rfl, rfl, trivial⟩ (fun _ h => h.upto ⟨rfl, trivial⟩)
 ·try simp only [za,zb,zc,zd,ze,zf,Bool.not_true,Bool.not_false,zg,zh,ne_eq,zi,zj] at c1
  have hkn : k = n := (by omega)
  refine at_exit ?_
  refine pass_then (fun h => by cases h) ?_
  refine pass_then (fun h => by cases h) ?_
  refine pass_hit ?_
  refine norm_then ?_
  refine at_seq ?_
  refine at_region ?_
  refine at_q rfl rfl (by decide) (qt_move rfl rfl) ?_
  refine at_q rfl rfl (by decide) (qt_assign rfl rfl) ?_
  refine at_end ?_
  refine at_retc ?_
  refine at_ret1 rfl (.tmp rfl) ?_
  intro w' hs
  exact ⟨retI (by rw [hkn]), hs.over.wrs.mono fun b hb => (hX b).1 hb, (hs.all 0 _ rfl).1⟩
theorem markOutline_any (x : Nat × List Pk) (n c : Nat) (m : Int) (w : World) (h : (wkR x).P w) (hn : x.2.length = n) (hm : 0 ≤ m) (hb : m + 3 * (szK x.2 n : Nat) ≤ 1000000000) (hs2 : n + szK x.2 n ≤ 1048576) :
  Calls Try.prog 16 #[outV (some ⟨x.1, 0, none⟩) n c, .int .i64 m] w fun e w' => e = .returned (.int .i64 (m + 3 * (szK x.2 n : Nat))) ∧ Wrs (wkR x).F w w' ∧ (wkR x).P w' := by
 obtain ⟨X, hX⟩ := blkK_ex h
 refine walk_fromR (m := 10) (X) (wkR x) (h) (fun b hb => (hX b).2 hb) rfl (Try.func16) rfl rfl (Nat.le_of_ble_eq_true rfl) ?_
 refine at_seq ?_
 refine at_region ?_
 refine at_op rfl ?_
 refine op_box rfl rfl (rfl) rfl (by decide) (fun b1 => ?_)
 refine at_rsE (by simp only [ya,yb,yc,yd,Value.cells,ye]; rfl) ?_
 refine at_q rfl rfl (by decide) (qt_assign rfl rfl) ?_
 refine at_end ?_
 refine at_seq ?_
 refine at_region ?_
 refine at_q rfl rfl (by decide) (qt_fieldAddr rfl rfl tyf_impl_Outline_0) ?_
 refine at_q rfl rfl (by decide) (qt_load1 rfl rfl ty1_sl_impl_Loop (rd1 (k := 1) rfl rfl)) ?_
 refine at_q rfl rfl (by decide) (qt_move rfl rfl) ?_
 refine at_op rfl ?_
 refine op_callw (k := 0) (r' := wkR x) ok_laws_markLoopS rfl rfl rfl (by decide) rfl (fun w' hs => markLoopS_any x n _ _ w' (hs.all 0 _ rfl).1 hn hm hb hs2) (fun _ h => h) rfl ?_
 refine at_rsE (by simp only [ya,yb,yc,yd,Value.cells,ye]; rfl) ?_
 refine at_q rfl rfl (by decide) (qt_assign rfl rfl) ?_
 refine at_end ?_
 refine at_seq ?_
 refine at_region ?_
 refine at_q rfl rfl (by decide) (qt_move rfl rfl) ?_
 refine at_q rfl rfl (by decide) (qt_assign rfl rfl) ?_
 refine at_end ?_
 refine at_retc ?_
 refine at_ret1 rfl (.tmp rfl) ?_
 intro w' hs
 exact ⟨rfl, hs.over.wrs.mono fun b hb => (hX b).1 hb, (hs.all 0 _ rfl).1⟩
end Go.Proofs.Ytjhaakollekjeaa
