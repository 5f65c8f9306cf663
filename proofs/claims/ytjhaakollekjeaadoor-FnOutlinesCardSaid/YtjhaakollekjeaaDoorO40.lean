import Derived.Test.YtjhaakollekjeaaDoorO15
namespace Go.Proofs.YtjhaakollekjeaaDoor
open Go Go.RowKit
set_option linter.unusedVariables false
set_option linter.unusedSimpArgs false
set_option maxRecDepth 100000
set_option maxHeartbeats 4000000
set_option linter.unusedVariables false
set_option linter.unusedSimpArgs false

def atA (rs : List Ring_) : Int := if regionB rs = true then legSum (edgesAll rs) else 0
def atC (rs : List Ring_) : Int := if regionB rs = true then 0 else 1
theorem ar_no {rs : List Ring_} (h : regionB rs = false) : Ending.returned (.tuple #[.int .i64 0, .int .i64 1]) = Ending.returned (.tuple #[.int .i64 (atA rs), .int .i64 (atC rs)]) := by simp [atA, atC, h]
theorem ar_yes {rs : List Ring_} (h : regionB rs = true) : Ending.returned (.tuple #[.int .i64 (legSum (allTo rs rs.length)), .int .i64 0]) = Ending.returned (.tuple #[.int .i64 (atA rs), .int .i64 (atC rs)]) := by
 have e1 : atA rs = legSum (allTo rs rs.length) := if_pos h
 have e2 : atC rs = 0 := if_pos h
 rw [e1, e2]
theorem legSum_all (rs : List Ring_) (k : Nat) : legSum (allTo rs k) + twiceTo (rg rs k) (rg rs k).length = legSum (allTo rs (k + 1)) := by
 have e : allTo rs (k + 1) = allTo rs k ++ edgesR (rg rs k) := rfl
 rw [e, legSum_append, edgesR_sum]
theorem all_ok2 {rs : List Ring_} (h : regionB rs = true) : ∀ k, k ≤ rs.length → ∀ l ∈ allTo rs k, legOk l
 | 0, _, l, hl => by simp [allTo] at hl
 | k + 1, hk, l, hl => by
  simp only [allTo, List.mem_append] at hl
  rcases hl with h1 | h1
  ·exact all_ok2 h k (by omega) l h1
  ·exact edgesTo_ok (ringB_parts (regRing h (show k < rs.length by omega))).2.2 _ (Nat.le_refl _) l h1
theorem area_bd {rs : List Ring_} (h : regionB rs = true) {k : Nat} (hk : k < rs.length) : (-2251799813685248 ≤ legSum (allTo rs k) ∧ legSum (allTo rs k) ≤ 2251799813685248) ∧ -54975581388800 ≤ twiceTo (rg rs k) (rg rs k).length ∧ twiceTo (rg rs k) (rg rs k).length ≤ 54975581388800 := by
 obtain ⟨r1, r2, r3⟩ := ringB_parts (regRing h hk)
 obtain ⟨t1, t2⟩ := twiceTo_bd r3 _ (Nat.le_refl _)
 obtain ⟨u1, u2⟩ := legSum_bd (allTo rs k) (all_ok2 h k (by omega))
 have h1 := allTo_len rs k
 have h2 := sumTo_le h k (by omega)
 have h3 := reg_len h
 exact ⟨⟨by omega, by omega⟩, by omega, by omega⟩
theorem specAreaTwice_any (A : Option Addr) (n c : Nat) (rs : List Ring_) (w : World) (h : Rings w A n rs) (ht : (total rs : Int) ≤ 1048577) :
  Calls Tryd.prog 19 #[regV A n c] w fun e w' => e = .returned (.tuple #[.int .i64 (atA rs), .int .i64 (atC rs)]) ∧ Over w w' := by
 have hl := h.1
 refine walk_from (m := 25) (Tryd.func19) rfl rfl (Nat.le_of_ble_eq_true rfl) ?_
 refine at_seq ?_
 refine at_region ?_
 refine at_op rfl ?_
 refine op_box rfl rfl (rfl) rfl (by decide) (fun b1 => ?_)
 refine at_rsE (by simp only [ya,yb,yc,yd,Value.cells,ye]; rfl) ?_
 refine at_q rfl rfl (by decide) (qt_assign rfl rfl) ?_
 refine at_q rfl rfl (by decide) (qt_assign rfl rfl) ?_
 refine at_end ?_
 refine at_seq ?_
 refine at_seq ?_
 refine at_region ?_
 refine at_q rfl rfl (by decide) (qt_call ok_spec_l13Ok rfl rfl (fun w1 hs => l13Ok_any _ _ A n c rs w1 (rd1 (k := 0) rfl rfl w1 hs) (lt_of_some (hs.cel (k := 0) rfl)) (h.over hs.fin) ht)) ?_
 refine at_q rfl rfl (by decide) (qt_not rfl rfl) ?_
 refine at_end ?_
 refine at_cond rfl (fun c1 => ?_) (fun c1 => ?_)
 ·try simp only [za,zb,zc,zd,ze,zf,Bool.not_true,Bool.not_false,zg,zh,ne_eq,zi,zj] at c1
  refine at_seq ?_
  refine at_region ?_
  refine at_q rfl rfl (by decide) (qt_assign rfl rfl) ?_
  refine at_q rfl rfl (by decide) (qt_assign rfl rfl) ?_
  refine at_end ?_
  refine at_retc ?_
  refine then_ret ?_
  refine at_ret2 rfl (.tmp rfl) (.tmp rfl) ?_
  intro w' hs
  exact ⟨ar_no c1, hs.fin⟩
 ·try simp only [za,zb,zc,zd,ze,zf,Bool.not_true,Bool.not_false,zg,zh,ne_eq,zi,zj] at c1
  have hr : regionB rs = true := c1
  have hn4 := reg_len hr
  refine at_skip ?_
  refine norm_then ?_
  refine at_seq ?_
  refine at_region ?_
  refine at_q rfl rfl (by decide) (qt_assign rfl rfl) ?_
  refine at_end ?_
  refine at_seq ?_
  refine at_seq ?_
  refine at_region ?_
  refine at_q rfl rfl (by decide) (qt_assign rfl rfl) ?_
  refine at_end ?_
  refine at_block ?_
  refine at_loopk (X := Nat) (fun k => k ≤ n) (fun k => n - k) (fun k => [(4, .int .i64 (legSum (allTo rs k))), (5, .int .i64 (k : Int))]) (C := [(1, _), (2, _), (3, _)]) ⟨rfl, rfl, rfl, trivial⟩ 0 (Nat.zero_le _) ⟨rfl, rfl, rfl, rfl, rfl, trivial⟩ ?_
  intro k hk L hL1
  refine at_envE (by simp only [ya,yb]; rfl) ?_
  refine at_seq ?_
  refine at_seq ?_
  refine at_region ?_
  refine at_q rfl rfl (by decide) (qt_move rfl rfl) ?_
  refine at_q rfl rfl (by decide) (qt_fieldAddr rfl rfl tyf_impl_Region_0) ?_
  refine at_q rfl rfl (by decide) (qt_load1 rfl rfl ty1_sl_impl_Ring (rd1 (k := 0) rfl rfl)) ?_
  refine at_q rfl rfl (by decide) (qt_len rfl rfl tyl_sl_impl_Ring) ?_
  refine at_q rfl rfl (by decide) (qt_lss rfl rfl rfl) ?_
  refine at_end ?_
  refine at_cond rfl (fun c2 => ?_) (fun c2 => ?_)
  ·try simp only [za,zb,zc,zd,ze,zf,Bool.not_true,Bool.not_false,zg,zh,ne_eq,zi,zj] at c2
   have hlt : k < n := (by omega)
   obtain ⟨eb, eo, Ak, ck, rfl, hbB, hcell, hpts, hmax⟩ := h.at_ hlt
   obtain ⟨r1, r2, r3⟩ := ringB_parts (regRing hr (show k < rs.length by omega))
   obtain ⟨⟨a1, a2⟩, a3, a4⟩ := area_bd hr (show k < rs.length by omega)
   refine at_skip ?_
   refine norm_then ?_
   refine at_seq ?_
   refine at_block ?_
   refine at_region ?_
   refine at_q rfl rfl (by decide) (qt_move rfl rfl) ?_
   refine at_q rfl rfl (by decide) (qt_fieldAddr rfl rfl tyf_impl_Region_0) ?_
   refine at_q rfl rfl (by decide) (qt_load1 rfl rfl ty1_sl_impl_Ring (rd1 (k := 0) rfl rfl)) ?_
   refine at_q rfl rfl (by decide) (qt_move rfl rfl) ?_
   refine at_q rfl rfl (by decide) (qt_index rfl rfl rfl tyl_sl_impl_Ring (by omega)) ?_
   refine at_q rfl rfl (by decide) (qt_fieldAddr rfl rfl tyf_impl_Ring_0) ?_
   refine at_q rfl rfl (by decide) (qt_load1 rfl rfl ty1_sl_impl_Pt (rdOldF hcell hbB)) ?_
   refine at_q rfl rfl (by decide) (qt_call ok_spec_l14Twice rfl rfl (fun w1 hs => l14Twice_any Ak _ ck (rg rs k) w1 (hpts.over hs.fin) (by omega) r3)) ?_
   refine at_q rfl rfl (by decide) (qt_add rfl rfl rfl (by omega) (by omega)) ?_
   refine at_q rfl rfl (by decide) (qt_assign rfl rfl) ?_
   refine at_nil ?_
   refine norm_block ?_
   refine norm_then ?_
   refine at_region ?_
   refine at_q rfl rfl (by decide) (qt_move rfl rfl) ?_
   refine at_q rfl rfl (by decide) (qt_add rfl rfl rfl (by omega) (by omega)) ?_
   refine at_q rfl rfl (by decide) (qt_assign rfl rfl) ?_
   refine at_end ?_
   exact at_againk hL1 (k + 1) ((by omega)) (by omega) ⟨vi (legSum_all rs k), vi (by omega), rfl, rfl, rfl, trivial⟩ (fun _ h => h.upto ⟨rfl, trivial⟩)
  ·try simp only [za,zb,zc,zd,ze,zf,Bool.not_true,Bool.not_false,zg,zh,ne_eq,zi,zj] at c2
   have hkn : k = rs.length := (by omega)
   subst hkn
   refine at_exit ?_
   refine pass_then (fun h => by cases h) ?_
   refine pass_then (fun h => by cases h) ?_
   refine pass_hit ?_
   refine norm_then ?_
   refine at_seq ?_
   refine at_region ?_
   refine at_q rfl rfl (by decide) (qt_move rfl rfl) ?_
   refine at_q rfl rfl (by decide) (qt_assign rfl rfl) ?_
   refine at_q rfl rfl (by decide) (qt_assign rfl rfl) ?_
   refine at_end ?_
   refine at_retc ?_
   refine at_ret2 rfl (.tmp rfl) (.tmp rfl) ?_
   intro w' hs
   exact ⟨ar_yes hr, hs.fin⟩
end Go.Proofs.YtjhaakollekjeaaDoor
