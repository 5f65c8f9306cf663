/- The part of a segment in a pixel. -/
import Derived.Test.YtakdjgldcpompaaGreatMem
import Derived.Test.YtakdjgldcpompaaGreatDat
import Derived.Test.YtakdjgldcpompaaGreatCorner
namespace Go.Proofs.YtakdjgldcpompaaGreat
open Go Go.RowKit
set_option linter.unusedVariables false
set_option linter.unusedSimpArgs false
set_option maxRecDepth 100000
set_option maxHeartbeats 4000000

/-- An interval of quotients: ln / ld to hn / hd, its ends belong to it or not. -/
structure Sp where
 ln : Int
 ld : Int
 lc : Bool
 hn : Int
 hd : Int
 hc : Bool
def sp0 : Sp := ⟨0, 1, true, 1, 1, true⟩
def nonE (s : Sp) : Bool := decide (s.ln * s.hd - s.hn * s.ld < 0) || (decide (s.ln * s.hd - s.hn * s.ld = 0) && s.lc && s.hc)
def upLow (s x : Sp) : Bool := decide (s.ln * x.ld - x.ln * s.ld < 0) || (decide (s.ln * x.ld - x.ln * s.ld = 0) && !x.lc)
def upHigh (s x : Sp) : Bool := decide (s.hn * x.hd - x.hn * s.hd > 0) || (decide (s.hn * x.hd - x.hn * s.hd = 0) && !x.hc)
def meetLow (s x : Sp) : Sp := if upLow s x = true then { s with ln := x.ln, ld := x.ld, lc := x.lc } else s
def meetHigh (s x : Sp) : Sp := if upHigh s x = true then { s with hn := x.hn, hd := x.hd, hc := x.hc } else s
def spMeet (s x : Sp) : Sp := meetHigh (meetLow s x) x

theorem frac_le {a b c d e f : Int} (hd : 0 < d) (hb : 0 < b) (hf : 0 < f) (h1 : a * d ≤ c * b) (h2 : c * f ≤ e * d) : a * f ≤ e * b := by
 have p1 := Int.mul_le_mul_of_nonneg_right h1 (Int.le_of_lt hf)
 have p2 := Int.mul_le_mul_of_nonneg_right h2 (Int.le_of_lt hb)
 have e1 : a * d * f = a * f * d := by rw [Int.mul_assoc, Int.mul_comm d f, ← Int.mul_assoc]
 have e2 : c * b * f = c * f * b := by rw [Int.mul_assoc, Int.mul_comm b f, ← Int.mul_assoc]
 have e3 : e * d * b = e * b * d := by rw [Int.mul_assoc, Int.mul_comm d b, ← Int.mul_assoc]
 rw [e1, e2] at p1
 rw [e3] at p2
 exact Int.le_of_mul_le_mul_right (Int.le_trans p1 p2) hd
theorem frac_lt {a b c d e f : Int} (hd : 0 < d) (hb : 0 < b) (hf : 0 < f) (h1 : a * d < c * b) (h2 : c * f ≤ e * d) : a * f < e * b := by
 have p1 := Int.mul_lt_mul_of_pos_right h1 hf
 have p2 := Int.mul_le_mul_of_nonneg_right h2 (Int.le_of_lt hb)
 have e1 : a * d * f = a * f * d := by rw [Int.mul_assoc, Int.mul_comm d f, ← Int.mul_assoc]
 have e2 : c * b * f = c * f * b := by rw [Int.mul_assoc, Int.mul_comm b f, ← Int.mul_assoc]
 have e3 : e * d * b = e * b * d := by rw [Int.mul_assoc, Int.mul_comm d b, ← Int.mul_assoc]
 rw [e1, e2] at p1
 rw [e3] at p2
 exact Int.lt_of_mul_lt_mul_right (Int.lt_of_lt_of_le p1 p2) (Int.le_of_lt hd)
theorem frac_lt' {a b c d e f : Int} (hd : 0 < d) (hb : 0 < b) (hf : 0 < f) (h1 : a * d ≤ c * b) (h2 : c * f < e * d) : a * f < e * b := by
 have p1 := Int.mul_le_mul_of_nonneg_right h1 (Int.le_of_lt hf)
 have p2 := Int.mul_lt_mul_of_pos_right h2 hb
 have e1 : a * d * f = a * f * d := by rw [Int.mul_assoc, Int.mul_comm d f, ← Int.mul_assoc]
 have e2 : c * b * f = c * f * b := by rw [Int.mul_assoc, Int.mul_comm b f, ← Int.mul_assoc]
 have e3 : e * d * b = e * b * d := by rw [Int.mul_assoc, Int.mul_comm d b, ← Int.mul_assoc]
 rw [e1, e2] at p1
 rw [e3] at p2
 exact Int.lt_of_mul_lt_mul_right (Int.lt_of_le_of_lt p1 p2) (Int.le_of_lt hd)

/-- What a further part leaves of an interval without points has none. -/
theorem nonE_low {s x : Sp} (h1 : 0 < s.ld) (h2 : 0 < s.hd) (h3 : 0 < x.ld) (h : nonE (meetLow s x) = true) : nonE s = true := by
 unfold meetLow at h
 split at h
 case isFalse => exact h
 case isTrue hu =>
  simp only [nonE, upLow, Bool.or_eq_true, Bool.and_eq_true, decide_eq_true_eq, Bool.not_eq_true'] at *
  obtain ⟨sln, sld, slc, shn, shd, shc⟩ := s
  obtain ⟨xln, xld, xlc, xhn, xhd, xhc⟩ := x
  simp only at *
  rcases hu with hu | ⟨hu, hx⟩
  ·left
   have : sln * shd < shn * sld := by
    rcases h with h | h
    ·exact frac_lt' (d := xld) (c := xln) h3 h1 h2 (by omega) (by omega)
    ·exact frac_lt (d := xld) (c := xln) h3 h1 h2 (by omega) (by omega)
   omega
  ·rcases h with h | ⟨⟨h, h'⟩, _⟩
   ·left
    have : sln * shd < shn * sld := frac_lt' (d := xld) (c := xln) h3 h1 h2 (by omega) (by omega)
    omega
   ·rw [hx] at h'; cases h'
theorem nonE_high {s x : Sp} (h1 : 0 < s.ld) (h2 : 0 < s.hd) (h3 : 0 < x.hd) (h : nonE (meetHigh s x) = true) : nonE s = true := by
 unfold meetHigh at h
 split at h
 case isFalse => exact h
 case isTrue hu =>
  simp only [nonE, upHigh, Bool.or_eq_true, Bool.and_eq_true, decide_eq_true_eq, Bool.not_eq_true'] at *
  obtain ⟨sln, sld, slc, shn, shd, shc⟩ := s
  obtain ⟨xln, xld, xlc, xhn, xhd, xhc⟩ := x
  simp only at *
  rcases hu with hu | ⟨hu, hx⟩
  ·left
   have : sln * shd < shn * sld := by
    rcases h with h | h
    ·exact frac_lt (d := xhd) (c := xhn) h3 h1 h2 (by omega) (by omega)
    ·exact frac_lt' (d := xhd) (c := xhn) h3 h1 h2 (by omega) (by omega)
   omega
  ·rcases h with h | ⟨⟨h, _⟩, h'⟩
   ·left
    have : sln * shd < shn * sld := frac_lt (d := xhd) (c := xhn) h3 h1 h2 (by omega) (by omega)
    omega
   ·rw [hx] at h'; cases h'

/-- The parameters for which a coordinate lies in a stretch of two. -/
def pixX (f d lo : Int) : Sp := if 0 < d then ⟨lo - f, d, true, lo + 2 - f, d, false⟩ else if d < 0 then ⟨f - lo - 2, -d, false, f - lo, -d, true⟩ else sp0
def pixIn (f d lo : Int) : Bool := !decide (d = 0) || (decide (lo ≤ f) && decide (f < lo + 2))
/-- The program's step: the new interval, and whether it has points. -/
def clipS (s : Sp) (f d lo : Int) : Sp := if d = 0 then s else spMeet s (pixX f d lo)
def clipB (s : Sp) (f d lo : Int) : Bool := if d = 0 then decide (lo ≤ f) && decide (f < lo + 2) else nonE (spMeet s (pixX f d lo))

theorem pixX_pos (f d lo : Int) : 0 < (pixX f d lo).ld ∧ 0 < (pixX f d lo).hd := by
 unfold pixX
 split
 ·exact ⟨by assumption, by assumption⟩
 ·split
  ·exact ⟨by simp; omega, by simp; omega⟩
  ·exact ⟨by decide, by decide⟩
theorem meetLow_pos {s x : Sp} (h : 0 < s.ld ∧ 0 < s.hd) (hx : 0 < x.ld ∧ 0 < x.hd) : 0 < (meetLow s x).ld ∧ 0 < (meetLow s x).hd := by
 unfold meetLow; split
 ·exact ⟨hx.1, h.2⟩
 ·exact h
theorem spMeet_pos {s x : Sp} (h : 0 < s.ld ∧ 0 < s.hd) (hx : 0 < x.ld ∧ 0 < x.hd) : 0 < (spMeet s x).ld ∧ 0 < (spMeet s x).hd := by
 have h' := meetLow_pos h hx
 unfold spMeet meetHigh; split
 ·exact ⟨h'.1, hx.2⟩
 ·exact h'
theorem sp0_pos : 0 < sp0.ld ∧ 0 < sp0.hd := ⟨by decide, by decide⟩
theorem nonE_meet {s x : Sp} (h : 0 < s.ld ∧ 0 < s.hd) (hx : 0 < x.ld ∧ 0 < x.hd) (hn : nonE (spMeet s x) = true) : nonE s = true := by
 have h' := meetLow_pos h hx
 exact nonE_low h.1 h.2 hx.1 (nonE_high h'.1 h'.2 hx.2 hn)

/-- Within 0 to 1. -/
def unitS (s : Sp) : Prop := 0 ≤ s.ln ∧ s.hn ≤ s.hd
theorem unit_meet {x : Sp} : unitS (spMeet sp0 x) := by
 unfold unitS spMeet meetHigh meetLow upHigh upLow sp0
 constructor
 ·split <;> split <;> simp_all <;> omega
 ·split <;> split <;> simp_all <;> omega
theorem meet_sp0 {s : Sp} (h : unitS s) : spMeet s sp0 = s := by
 obtain ⟨h1, h2⟩ := h
 have e1 : upLow s sp0 = false := by simp [upLow, sp0]; omega
 have e2 : upHigh s sp0 = false := by simp [upHigh, sp0]; omega
 have e3 : meetLow s sp0 = s := by rw [meetLow, e1]; rfl
 rw [spMeet, e3, meetHigh, e2]; rfl
theorem sp0_unit : unitS sp0 := ⟨by decide, by decide⟩

/-- The reference's answer. -/
def insB (f d lo f' d' lo' : Int) : Bool := pixIn f d lo && pixIn f' d' lo' && nonE (spMeet (spMeet sp0 (pixX f d lo)) (pixX f' d' lo'))
theorem pixX_zero (f lo : Int) : pixX f 0 lo = sp0 := by simp [pixX]
theorem clipS_eq {s : Sp} (h : unitS s) (f d lo : Int) : clipS s f d lo = spMeet s (pixX f d lo) := by
 unfold clipS
 split
 ·rename_i h0; subst h0; rw [pixX_zero, meet_sp0 h]
 ·rfl
theorem clipB_eq {s : Sp} (h : unitS s) (hn : nonE s = true) (f d lo : Int) : clipB s f d lo = (pixIn f d lo && nonE (spMeet s (pixX f d lo))) := by
 unfold clipB pixIn
 split
 ·rename_i h0; subst h0; rw [pixX_zero, meet_sp0 h, hn]; simp
 ·rename_i h0; simp [h0]
theorem clip_law (f d lo f' d' lo' : Int) : insB f d lo f' d' lo' = (clipB sp0 f d lo && clipB (clipS sp0 f d lo) f' d' lo') := by
 have hn0 : nonE sp0 = true := by decide
 rw [clipS_eq sp0_unit, clipB_eq sp0_unit hn0, insB]
 cases h1 : pixIn f d lo
 ·simp
 ·cases h2 : nonE (spMeet sp0 (pixX f d lo))
  ·have : nonE (spMeet (spMeet sp0 (pixX f d lo)) (pixX f' d' lo')) = false := by
    cases h3 : nonE (spMeet (spMeet sp0 (pixX f d lo)) (pixX f' d' lo'))
    ·rfl
    ·have := nonE_meet (spMeet_pos sp0_pos (pixX_pos _ _ _)) (pixX_pos _ _ _) h3
     rw [h2] at this; cases this
   simp [this]
  ·rw [clipB_eq unit_meet h2]
   simp
abbrev bdV (n d : Int) (c : Bool) : Value := .agg #[.int .i64 n, .int .i64 d, .bool c]
def bd1 (n d : Int) : Prop := (-2097152 ≤ n ∧ n ≤ 2097152) ∧ -2097152 ≤ d ∧ d ≤ 2097152

theorem compareBound_any (n d n' d' : Int) (c c' : Bool) (w : World) (h : bd1 n d) (h' : bd1 n' d') :
  Calls Tryz.prog 69 #[bdV n d c, bdV n' d' c'] w fun e w' => e = .returned (.int .i64 (sgn (n * d' - n' * d))) ∧ Over w w' := by
 obtain ⟨⟨a1, a2⟩, a3, a4⟩ := h
 obtain ⟨⟨b1, b2⟩, b3, b4⟩ := h'
 obtain ⟨m1, m1'⟩ := mul_bd a1 a2 b3 b4
 obtain ⟨m2, m2'⟩ := mul_bd b1 b2 a3 a4
 refine walk_from (m := 17) (Tryz.func69) rfl rfl (Nat.le_of_ble_eq_true rfl) ?_
 refine at_seq ?_
 refine at_region ?_
 refine at_op rfl ?_
 refine op_box rfl rfl (rfl) rfl (by decide) (fun b1 => ?_)
 refine at_rsE (by simp only [ya,yb,yc,yd,Value.cells,ye]; rfl) ?_
 refine at_op rfl ?_
 refine op_box rfl rfl (rfl) rfl (by decide) (fun b2 => ?_)
 refine at_rsE (by simp only [ya,yb,yc,yd,Value.cells,ye]; rfl) ?_
 refine at_q rfl rfl (by decide) (qt_assign rfl rfl) ?_
 refine at_end ?_
 refine at_seq ?_
 refine at_region ?_
 refine at_q rfl rfl (by decide) (qt_fieldAddr rfl rfl tyf_impl_bound_0) ?_
 refine at_q rfl rfl (by decide) (qt_load1 rfl rfl ty1_int64 (rd1 (k := 0) rfl rfl)) ?_
 refine at_q rfl rfl (by decide) (qt_fieldAddr rfl rfl tyf_impl_bound_1) ?_
 refine at_q rfl rfl (by decide) (qt_load1 rfl rfl ty1_int64 (rd1 (k := 1) rfl rfl)) ?_
 refine at_q rfl rfl (by decide) (qt_mul rfl rfl rfl (by omega) (by omega)) ?_
 refine at_q rfl rfl (by decide) (qt_fieldAddr rfl rfl tyf_impl_bound_0) ?_
 refine at_q rfl rfl (by decide) (qt_load1 rfl rfl ty1_int64 (rd1 (k := 1) rfl rfl)) ?_
 refine at_q rfl rfl (by decide) (qt_fieldAddr rfl rfl tyf_impl_bound_1) ?_
 refine at_q rfl rfl (by decide) (qt_load1 rfl rfl ty1_int64 (rd1 (k := 0) rfl rfl)) ?_
 refine at_q rfl rfl (by decide) (qt_mul rfl rfl rfl (by omega) (by omega)) ?_
 refine at_q rfl rfl (by decide) (qt_sub rfl rfl rfl (by omega) (by omega)) ?_
 refine at_q rfl rfl (by decide) (qt_call ok_impl_sign64 rfl rfl (fun w h => (sign64_any _ w).mono fun e w' ⟨he, hw⟩ => ⟨he, hw ▸ Over.refl _⟩)) ?_
 refine at_q rfl rfl (by decide) (qt_assign rfl rfl) ?_
 refine at_end ?_
 refine at_retc ?_
 refine at_ret1 rfl (.tmp rfl) ?_
 intro w' hs
 exact ⟨rfl, hs.fin⟩
def spCs (s : Sp) : List Value := [.int .i64 s.ln, .int .i64 s.ld, .bool s.lc, .int .i64 s.hn, .int .i64 s.hd, .bool s.hc]
structure bdP (s : Sp) : Prop where
 low : bd1 s.ln s.ld
 high : bd1 s.hn s.hd
theorem pixX_bd (f d lo : Int) (f1 : -524288 ≤ f) (f2 : f ≤ 524288) (d1 : -1048576 ≤ d) (d2 : d ≤ 1048576) (l1 : -524289 ≤ lo) (l2 : lo ≤ 524289) : bdP (pixX f d lo) := by
 unfold pixX
 split
 ·exact ⟨⟨⟨by simp; omega, by simp; omega⟩, by simp; omega, by simp; omega⟩, ⟨by simp; omega, by simp; omega⟩, by simp; omega, by simp; omega⟩
 ·split
  ·exact ⟨⟨⟨by simp; omega, by simp; omega⟩, by simp; omega, by simp; omega⟩, ⟨by simp; omega, by simp; omega⟩, by simp; omega, by simp; omega⟩
  ·exact ⟨⟨⟨by decide, by decide⟩, by decide, by decide⟩, ⟨by decide, by decide⟩, by decide, by decide⟩
theorem meetLow_bd {s x : Sp} (hs : bdP s) (hx : bdP x) : bdP (meetLow s x) := by
 unfold meetLow; split
 ·exact ⟨hx.low, hs.high⟩
 ·exact hs
theorem meetHigh_bd {s x : Sp} (hs : bdP s) (hx : bdP x) : bdP (meetHigh s x) := by
 unfold meetHigh; split
 ·exact ⟨hs.low, hx.high⟩
 ·exact hs
theorem sgn_neg {n : Int} : (sgn n < 0) ↔ n < 0 := by unfold sgn; split <;> (try split) <;> omega
theorem sgn_cases (n : Int) : (n < 0 ∧ sgn n = -1) ∨ (n = 0 ∧ sgn n = 0) ∨ (0 < n ∧ sgn n = 1) := by unfold sgn; split <;> (try split) <;> omega

theorem clip_any (b : Nat) (s : Sp) (f d lo : Int) (w : World) (hs : bdP s) (f1 : -524288 ≤ f) (f2 : f ≤ 524288) (d1 : -1048576 ≤ d) (d2 : d ≤ 1048576) (l1 : -524289 ≤ lo) (l2 : lo ≤ 524289)
  (hh : w.heap[b]? = some (.cells (spCs s).toArray 107 (0, 0))) :
  Calls Tryz.prog 87 #[.pointer (some ⟨b, 0, none⟩), .int .i64 f, .int .i64 d, .int .i64 lo] w fun e w' => e = .returned (.bool (clipB s f d lo)) ∧ Wr b w w' ∧ w'.heap[b]? = some (.cells (spCs (clipS s f d lo)).toArray 107 (0, 0)) := by
 have hx := pixX_bd f d lo f1 f2 d1 d2 l1 l2
 obtain ⟨x, ex⟩ : ∃ x, pixX f d lo = x := ⟨_, rfl⟩
 rw [ex] at hx
 have hs1 := meetLow_bd hs hx
 have hs2 := meetHigh_bd hs1 hx
 obtain ⟨x1, x2⟩ := hx
 obtain ⟨y1, y2⟩ := hs
 obtain ⟨z1, z2⟩ := hs1
 obtain ⟨u1, u2⟩ := hs2
 refine walk_from1 (m := 122) (Tryz.func87) rfl rfl (Nat.le_of_ble_eq_true rfl) (hh) ?_
 refine at_seq ?_
 refine at_region ?_
 refine at_q rfl rfl (by decide) (qt_assign rfl rfl) ?_
 refine at_end ?_
 refine at_seq ?_
 refine at_seq ?_
 refine at_region ?_
 refine at_q rfl rfl (by decide) (qt_move rfl rfl) ?_
 refine at_q rfl rfl (by decide) (qt_eql rfl rfl rfl) ?_
 refine at_end ?_
 refine at_cond rfl (fun c1 => ?_) (fun c1 => ?_)
 ·try simp only [za,zb,zc,zd,ze,zf,Bool.not_true,Bool.not_false,zg,zh,ne_eq,zi,zj] at c1
  refine at_seq ?_
  refine at_region ?_
  refine at_q rfl rfl (by decide) (qt_move rfl rfl) ?_
  refine at_q rfl rfl (by decide) (qt_move rfl rfl) ?_
  refine at_q rfl rfl (by decide) (qt_geq rfl rfl rfl) ?_
  refine at_q rfl rfl (by decide) (qt_move rfl rfl) ?_
  refine at_bsplit 19 rfl (fun g1 => ?_) (fun g1 => ?_)
  ·try simp only [za,zb,zc,zd,ze,zf,Bool.not_true,Bool.not_false,zg,zh,ne_eq,zi,zj] at g1
   refine at_on rfl rfl rfl rfl ?_
   refine op_q rfl (by decide) (qt_move rfl rfl) ?_
   refine at_on rfl rfl rfl rfl ?_
   refine op_q rfl (by decide) (qt_move rfl rfl) ?_
   refine at_on rfl rfl rfl rfl ?_
   refine op_q rfl (by decide) (qt_add rfl rfl rfl (by omega) (by omega)) ?_
   refine at_on rfl rfl rfl rfl ?_
   refine op_q rfl (by decide) (qt_lss rfl rfl rfl) ?_
   refine at_q rfl rfl (by decide) (qt_pickT rfl rfl rfl) ?_
   refine at_q rfl rfl (by decide) (qt_assign rfl rfl) ?_
   refine at_end ?_
   refine at_retc ?_
   refine then_ret ?_
   refine at_ret1 rfl (.tmp rfl) ?_
   intro w' hs
   exact ⟨by subst c1; simp [clipB, g1], hs.over.wr, by subst c1; simpa [clipS] using hs.cel (k := 0) rfl⟩
  ·try simp only [za,zb,zc,zd,ze,zf,Bool.not_true,Bool.not_false,zg,zh,ne_eq,zi,zj] at g1
   refine at_off rfl rfl rfl rfl (by decide) rfl (by decide) ?_
   refine at_off rfl rfl rfl rfl (by decide) rfl (by decide) ?_
   refine at_off rfl rfl rfl rfl (by decide) rfl (by decide) ?_
   refine at_off rfl rfl rfl rfl (by decide) rfl (by decide) ?_
   refine at_q rfl rfl (by decide) (qt_pickF rfl rfl rfl) ?_
   refine at_q rfl rfl (by decide) (qt_assign rfl rfl) ?_
   refine at_end ?_
   refine at_retc ?_
   refine then_ret ?_
   refine at_ret1 rfl (.tmp rfl) ?_
   intro w' hs
   exact ⟨by subst c1; simp [clipB]; omega, hs.over.wr, by subst c1; simpa [clipS] using hs.cel (k := 0) rfl⟩
 ·try simp only [za,zb,zc,zd,ze,zf,Bool.not_true,Bool.not_false,zg,zh,ne_eq,zi,zj] at c1
  refine at_skip ?_
  refine norm_then ?_
  refine at_seq ?_
  refine at_region ?_
  refine at_q rfl rfl (by decide) (qt_move rfl rfl) ?_
  refine at_q rfl rfl (by decide) (qt_move rfl rfl) ?_
  refine at_q rfl rfl (by decide) (qt_sub rfl rfl rfl (by omega) (by omega)) ?_
  refine at_q rfl rfl (by decide) (qt_move rfl rfl) ?_
  refine at_q rfl rfl (by decide) (qt_build rfl rfl (bld_impl_bound_0_1_2 rfl rfl rfl)) ?_
  refine at_q rfl rfl (by decide) (qt_move rfl rfl) ?_
  refine at_q rfl rfl (by decide) (qt_add rfl rfl rfl (by omega) (by omega)) ?_
  refine at_q rfl rfl (by decide) (qt_move rfl rfl) ?_
  refine at_q rfl rfl (by decide) (qt_sub rfl rfl rfl (by omega) (by omega)) ?_
  refine at_q rfl rfl (by decide) (qt_move rfl rfl) ?_
  refine at_q rfl rfl (by decide) (qt_build rfl rfl (bld_impl_bound_0_1_2 rfl rfl rfl)) ?_
  refine at_op rfl ?_
  refine op_alloc rfl tyz_impl_bound rfl (by decide) (fun b1 => ?_)
  refine at_rsE (by simp only [ya,yb,yc,yd,Value.cells,ye]; rfl) ?_
  refine at_op rfl ?_
  refine op_alloc rfl tyz_impl_bound rfl (by decide) (fun b2 => ?_)
  refine at_rsE (by simp only [ya,yb,yc,yd,Value.cells,ye]; rfl) ?_
  refine at_op rfl ?_
  refine op_storeAll' (k := 1) rfl rfl rfl rfl (rfl) (by rfl) tyz_impl_bound.szx rfl rfl rfl ?_
  refine at_rsE (by simp only [ya,yb,yc,yd,Value.cells,ye]; rfl) ?_
  refine at_op rfl ?_
  refine op_storeAll' (k := 2) rfl rfl rfl rfl (rfl) (by rfl) tyz_impl_bound.szx rfl rfl rfl ?_
  refine at_rsE (by simp only [ya,yb,yc,yd,Value.cells,ye]; rfl) ?_
  refine at_end ?_
  refine at_cut [] (C := [(0, _), (8, _), (9, _), (10, _)]) ([.cel b 107 (spCs s), .cel b1 105 [.int .i64 x.ln, .int .i64 x.ld, .bool x.lc], .cel b2 105 [.int .i64 x.hn, .int .i64 x.hd, .bool x.hc]]) ⟨rfl, rfl, rfl, rfl, trivial⟩ (fun L hC_cutif_t37 => ?_) ?_
  ·refine at_seq ?_
   refine at_region ?_
   refine at_q rfl rfl (by decide) (qt_move rfl rfl) ?_
   refine at_q rfl rfl (by decide) (qt_lss rfl rfl rfl) ?_
   refine at_end ?_
   refine at_cond rfl (fun c2 => ?_) (fun c2 => ?_)
   ·try simp only [za,zb,zc,zd,ze,zf,Bool.not_true,Bool.not_false,zg,zh,ne_eq,zi,zj] at c2
    refine at_region ?_
    refine at_q rfl rfl (by decide) (qt_move rfl rfl) ?_
    refine at_q rfl rfl (by decide) (qt_move rfl rfl) ?_
    refine at_q rfl rfl (by decide) (qt_sub rfl rfl rfl (by omega) (by omega)) ?_
    refine at_q rfl rfl (by decide) (qt_sub rfl rfl rfl (by omega) (by omega)) ?_
    refine at_q rfl rfl (by decide) (qt_move rfl rfl) ?_
    refine at_q rfl rfl (by decide) (qt_neg rfl rfl (by omega) (by omega)) ?_
    refine at_q rfl rfl (by decide) (qt_build rfl rfl (bld_impl_bound_0_1_2 rfl rfl rfl)) ?_
    refine at_q rfl rfl (by decide) (qt_move rfl rfl) ?_
    refine at_q rfl rfl (by decide) (qt_move rfl rfl) ?_
    refine at_q rfl rfl (by decide) (qt_sub rfl rfl rfl (by omega) (by omega)) ?_
    refine at_q rfl rfl (by decide) (qt_move rfl rfl) ?_
    refine at_q rfl rfl (by decide) (qt_neg rfl rfl (by omega) (by omega)) ?_
    refine at_q rfl rfl (by decide) (qt_build rfl rfl (bld_impl_bound_0_1_2 rfl rfl rfl)) ?_
    refine at_op rfl ?_
    refine op_storeAll' (k := 1) rfl rfl rfl rfl (rfl) (by rfl) tyz_impl_bound.szx rfl rfl rfl ?_
    refine at_rsE (by simp only [ya,yb,yc,yd,Value.cells,ye]; rfl) ?_
    refine at_op rfl ?_
    refine op_storeAll' (k := 2) rfl rfl rfl rfl (rfl) (by rfl) tyz_impl_bound.szx rfl rfl rfl ?_
    refine at_rsE (by simp only [ya,yb,yc,yd,Value.cells,ye]; rfl) ?_
    refine at_end ?_
    exact at_meet hC_cutif_t37 ⟨rfl, rfl, rfl, rfl, trivial⟩ (fun _ h => h.upto ⟨rfl, by rw [← ex, pixX, if_neg (by omega), if_pos c2] <;> rfl, by rw [← ex, pixX, if_neg (by omega), if_pos c2] <;> rfl, trivial⟩)
   ·try simp only [za,zb,zc,zd,ze,zf,Bool.not_true,Bool.not_false,zg,zh,ne_eq,zi,zj] at c2
    refine at_skip ?_
    refine norm_then ?_
    exact at_meet hC_cutif_t37 ⟨rfl, rfl, rfl, rfl, trivial⟩ (fun _ h => h.upto ⟨rfl, by rw [← ex, pixX, if_pos (by omega)] <;> rfl, by rw [← ex, pixX, if_pos (by omega)] <;> rfl, trivial⟩)
  ·refine at_envE (by simp only [ya,yb]; rfl) ?_
   refine at_cut [] (C := [(0, _), (8, _), (10, _)]) ([.cel b 107 (spCs (meetLow s x)), .cel b1 105 [.int .i64 x.ln, .int .i64 x.ld, .bool x.lc], .cel b2 105 [.int .i64 x.hn, .int .i64 x.hd, .bool x.hc]]) ⟨rfl, rfl, rfl, trivial⟩ (fun L hC_cutif_t67 => ?_) ?_
   ·refine at_seq ?_
    refine dg_start mixed rfl ?_
    refine dg_phase 7 ?_
    refine dg_q (i := 0) rfl (by kernel_rfl) (by kernel_rfl) (by kernel_rfl) [] (by kernel_rfl) (fun _ _ _ h => h) rfl rfl (by decide) (fun _ h => h.upto ⟨rfl, rfl, rfl, trivial⟩) (qt_loadS rfl rfl tys_impl_bound rfl (rdAll (k := 1) rfl)) ?_
    refine dg_q (i := 1) rfl (by kernel_rfl) (by kernel_rfl) (by kernel_rfl) [] (by kernel_rfl) (fun _ _ _ h => h) rfl rfl (by decide) (fun _ h => h.upto ⟨rfl, rfl, rfl, trivial⟩) (qt_move rfl rfl) ?_
    refine dg_q (i := 2) rfl (by kernel_rfl) (by kernel_rfl) (by kernel_rfl) [] (by kernel_rfl) (fun _ _ _ h => h) rfl rfl (by decide) (fun _ h => h.upto ⟨rfl, rfl, rfl, trivial⟩) (qt_nilCheck rfl rfl) ?_
    refine dg_q (i := 3) rfl (by kernel_rfl) (by kernel_rfl) (by kernel_rfl) [] (by kernel_rfl) (fun _ _ _ h => h) rfl rfl (by decide) (fun _ h => h.upto ⟨rfl, rfl, rfl, trivial⟩) (qt_fieldAddr rfl rfl tyf_impl_pixelWalk_0) ?_
    refine dg_q (i := 4) rfl (by kernel_rfl) (by kernel_rfl) (by kernel_rfl) [] (by kernel_rfl) (fun _ _ _ h => h) rfl rfl (by decide) (fun _ h => h.upto ⟨rfl, rfl, rfl, trivial⟩) (qt_loadS rfl rfl tys_impl_bound rfl (rd3 (k := 0) rfl rfl rfl rfl)) ?_
    refine dg_q (i := 5) rfl (by kernel_rfl) (by kernel_rfl) (by kernel_rfl) [] (by kernel_rfl) (fun _ _ _ h => h) rfl rfl (by decide) (fun _ h => h.upto ⟨rfl, rfl, rfl, trivial⟩) (qt_call ok_impl_compareBound rfl rfl (fun w h => compareBound_any _ _ _ _ _ _ w (by assumption) (by assumption))) ?_
    refine dg_q (i := 6) rfl (by kernel_rfl) (by kernel_rfl) (by kernel_rfl) [] (by kernel_rfl) (fun _ _ _ h => h) rfl rfl (by decide) (fun _ h => h.upto ⟨rfl, rfl, rfl, trivial⟩) (qt_assign rfl rfl) ?_
    refine dg_done (by kernel_rfl) ?_
    refine norm_then ?_
    refine at_cutE [(67, .bool (upLow s x))] (C := [(0, _), (8, _), (9, _), (10, _)])  ⟨rfl, rfl, rfl, rfl, trivial⟩ (fun L hC_cut_7 => ?_) ?_
    ·refine at_region ?_
     refine at_q rfl rfl (by decide) (qt_move rfl rfl) ?_
     refine at_q rfl rfl (by decide) (qt_gtr rfl rfl rfl) ?_
     refine at_q rfl rfl (by decide) (qt_move rfl rfl) ?_
     refine at_bsplit 59 rfl (fun g2 => ?_) (fun g2 => ?_)
     ·try simp only [za,zb,zc,zd,ze,zf,Bool.not_true,Bool.not_false,zg,zh,ne_eq,zi,zj] at g2
      refine at_off rfl rfl rfl rfl (by decide) rfl (by decide) ?_
      refine at_off rfl rfl rfl rfl (by decide) rfl (by decide) ?_
      refine at_off rfl rfl rfl rfl (by decide) rfl (by decide) ?_
      refine at_offu rfl rfl rfl rfl rfl (by decide) ?_
      refine at_offu rfl rfl rfl rfl rfl (by decide) ?_
      refine at_offu rfl rfl rfl rfl rfl (by decide) ?_
      refine at_off rfl rfl rfl rfl (by decide) rfl (by decide) ?_
      refine at_q rfl rfl (by decide) (qt_pickT rfl rfl rfl) ?_
      refine at_end ?_
      exact at_meet hC_cut_7 ⟨vb (by have k := sgn_cases (x.ln * s.ld - s.ln * x.ld); symm; simp [upLow]; omega), rfl, rfl, rfl, rfl, trivial⟩ (fun _ h => h.upto ⟨rfl, rfl, rfl, trivial⟩)
     ·try simp only [za,zb,zc,zd,ze,zf,Bool.not_true,Bool.not_false,zg,zh,ne_eq,zi,zj] at g2
      refine at_on rfl rfl rfl rfl ?_
      refine op_q rfl (by decide) (qt_move rfl rfl) ?_
      refine at_on rfl rfl rfl rfl ?_
      refine op_q rfl (by decide) (qt_eql rfl rfl rfl) ?_
      refine at_on rfl rfl rfl rfl ?_
      refine op_q rfl (by decide) (qt_move rfl rfl) ?_
      refine at_bsplit 62 rfl (fun g3 => ?_) (fun g3 => ?_)
      ·try simp only [za,zb,zc,zd,ze,zf,Bool.not_true,Bool.not_false,zg,zh,ne_eq,zi,zj] at g3
       refine at_on rfl rfl rfl rfl ?_
       refine op_q rfl (by decide) (qt_fieldAddr rfl rfl tyf_impl_bound_2) ?_
       refine at_on rfl rfl rfl rfl ?_
       refine op_q rfl (by decide) (qt_load1 rfl rfl ty1_bool (rd1 (k := 1) rfl rfl)) ?_
       refine at_on rfl rfl rfl rfl ?_
       refine op_q rfl (by decide) (qt_not rfl rfl) ?_
       refine at_on rfl rfl rfl rfl ?_
       refine op_q rfl (by decide) (qt_pickT rfl rfl rfl) ?_
       refine at_q rfl rfl (by decide) (qt_pickF rfl rfl rfl) ?_
       refine at_end ?_
       exact at_meet hC_cut_7 ⟨vb (by have k := sgn_cases (x.ln * s.ld - s.ln * x.ld); have e : s.ln * x.ld - x.ln * s.ld = 0 := (by omega); simp [upLow, e]), rfl, rfl, rfl, rfl, trivial⟩ (fun _ h => h.upto ⟨rfl, rfl, rfl, trivial⟩)
      ·try simp only [za,zb,zc,zd,ze,zf,Bool.not_true,Bool.not_false,zg,zh,ne_eq,zi,zj] at g3
       refine at_off rfl rfl rfl rfl (by decide) rfl (by decide) ?_
       refine at_off rfl rfl rfl rfl (by decide) rfl (by decide) ?_
       refine at_off rfl rfl rfl rfl (by decide) rfl (by decide) ?_
       refine at_on rfl rfl rfl rfl ?_
       refine op_q rfl (by decide) (qt_pickF rfl rfl rfl) ?_
       refine at_q rfl rfl (by decide) (qt_pickF rfl rfl rfl) ?_
       refine at_end ?_
       exact at_meet hC_cut_7 ⟨vb (by have k := sgn_cases (x.ln * s.ld - s.ln * x.ld); symm; simp [upLow]; omega), rfl, rfl, rfl, rfl, trivial⟩ (fun _ h => h.upto ⟨rfl, rfl, rfl, trivial⟩)
    ·refine at_envE (by simp only [ya,yb]; rfl) ?_
     refine at_cond rfl (fun c3 => ?_) (fun c3 => ?_)
     ·try simp only [za,zb,zc,zd,ze,zf,Bool.not_true,Bool.not_false,zg,zh,ne_eq,zi,zj] at c3
      refine at_region ?_
      refine at_q rfl rfl (by decide) (qt_move rfl rfl) ?_
      refine at_q rfl rfl (by decide) (qt_loadS rfl rfl tys_impl_bound rfl (rdAll (k := 1) rfl)) ?_
      refine at_q rfl rfl (by decide) (qt_nilCheck rfl rfl) ?_
      refine at_q rfl rfl (by decide) (qt_fieldAddr rfl rfl tyf_impl_pixelWalk_0) ?_
      refine at_op rfl ?_
      refine op_store_6_0_3 (k := 0) rfl rfl rfl rfl (rfl) (by rfl) tyz_impl_bound.szx rfl ?_
      refine at_rsE (by simp only [ya,yb,yc,yd,Value.cells,ye]; rfl) ?_
      refine at_end ?_
      exact at_meet hC_cutif_t67 ⟨rfl, rfl, rfl, trivial⟩ (fun _ h => h.upto ⟨by rw [meetLow, if_pos c3] <;> rfl, rfl, rfl, trivial⟩)
     ·try simp only [za,zb,zc,zd,ze,zf,Bool.not_true,Bool.not_false,zg,zh,ne_eq,zi,zj] at c3
      refine at_skip ?_
      refine norm_then ?_
      exact at_meet hC_cutif_t67 ⟨rfl, rfl, rfl, trivial⟩ (fun _ h => h.upto ⟨by rw [meetLow, c3] <;> rfl, rfl, rfl, trivial⟩)
   ·refine at_envE (by simp only [ya,yb]; rfl) ?_
    refine at_cut [] (C := [(0, _), (8, _)]) ([.cel b 107 (spCs (spMeet s x)), .cel b1 105 [.int .i64 x.ln, .int .i64 x.ld, .bool x.lc], .cel b2 105 [.int .i64 x.hn, .int .i64 x.hd, .bool x.hc]]) ⟨rfl, rfl, trivial⟩ (fun L hC_cutif_t88 => ?_) ?_
    ·refine at_seq ?_
     refine dg_start mixed rfl ?_
     refine dg_phase 7 ?_
     refine dg_q (i := 0) rfl (by kernel_rfl) (by kernel_rfl) (by kernel_rfl) [] (by kernel_rfl) (fun _ _ _ h => h) rfl rfl (by decide) (fun _ h => h.upto ⟨rfl, rfl, rfl, trivial⟩) (qt_loadS rfl rfl tys_impl_bound rfl (rdAll (k := 2) rfl)) ?_
     refine dg_q (i := 1) rfl (by kernel_rfl) (by kernel_rfl) (by kernel_rfl) [] (by kernel_rfl) (fun _ _ _ h => h) rfl rfl (by decide) (fun _ h => h.upto ⟨rfl, rfl, rfl, trivial⟩) (qt_move rfl rfl) ?_
     refine dg_q (i := 2) rfl (by kernel_rfl) (by kernel_rfl) (by kernel_rfl) [] (by kernel_rfl) (fun _ _ _ h => h) rfl rfl (by decide) (fun _ h => h.upto ⟨rfl, rfl, rfl, trivial⟩) (qt_nilCheck rfl rfl) ?_
     refine dg_q (i := 3) rfl (by kernel_rfl) (by kernel_rfl) (by kernel_rfl) [] (by kernel_rfl) (fun _ _ _ h => h) rfl rfl (by decide) (fun _ h => h.upto ⟨rfl, rfl, rfl, trivial⟩) (qt_fieldAddr rfl rfl tyf_impl_pixelWalk_1) ?_
     refine dg_q (i := 4) rfl (by kernel_rfl) (by kernel_rfl) (by kernel_rfl) [] (by kernel_rfl) (fun _ _ _ h => h) rfl rfl (by decide) (fun _ h => h.upto ⟨rfl, rfl, rfl, trivial⟩) (qt_loadS rfl rfl tys_impl_bound rfl (rd3 (k := 0) rfl rfl rfl rfl)) ?_
     refine dg_q (i := 5) rfl (by kernel_rfl) (by kernel_rfl) (by kernel_rfl) [] (by kernel_rfl) (fun _ _ _ h => h) rfl rfl (by decide) (fun _ h => h.upto ⟨rfl, rfl, rfl, trivial⟩) (qt_call ok_impl_compareBound rfl rfl (fun w h => compareBound_any _ _ _ _ _ _ w (by assumption) (by assumption))) ?_
     refine dg_q (i := 6) rfl (by kernel_rfl) (by kernel_rfl) (by kernel_rfl) [] (by kernel_rfl) (fun _ _ _ h => h) rfl rfl (by decide) (fun _ h => h.upto ⟨rfl, rfl, rfl, trivial⟩) (qt_assign rfl rfl) ?_
     refine dg_done (by kernel_rfl) ?_
     refine norm_then ?_
     refine at_cutE [(88, .bool (upHigh (meetLow s x) x))] (C := [(0, _), (8, _), (10, _)])  ⟨rfl, rfl, rfl, trivial⟩ (fun L hC_cut_10 => ?_) ?_
     ·refine at_region ?_
      refine at_q rfl rfl (by decide) (qt_move rfl rfl) ?_
      refine at_q rfl rfl (by decide) (qt_lss rfl rfl rfl) ?_
      refine at_q rfl rfl (by decide) (qt_move rfl rfl) ?_
      refine at_bsplit 80 rfl (fun g4 => ?_) (fun g4 => ?_)
      ·try simp only [za,zb,zc,zd,ze,zf,Bool.not_true,Bool.not_false,zg,zh,ne_eq,zi,zj] at g4
       refine at_off rfl rfl rfl rfl (by decide) rfl (by decide) ?_
       refine at_off rfl rfl rfl rfl (by decide) rfl (by decide) ?_
       refine at_off rfl rfl rfl rfl (by decide) rfl (by decide) ?_
       refine at_offu rfl rfl rfl rfl rfl (by decide) ?_
       refine at_offu rfl rfl rfl rfl rfl (by decide) ?_
       refine at_offu rfl rfl rfl rfl rfl (by decide) ?_
       refine at_off rfl rfl rfl rfl (by decide) rfl (by decide) ?_
       refine at_q rfl rfl (by decide) (qt_pickT rfl rfl rfl) ?_
       refine at_end ?_
       exact at_meet hC_cut_10 ⟨vb (by have k := sgn_cases (x.hn * (meetLow s x).hd - (meetLow s x).hn * x.hd); symm; simp [upHigh]; omega), rfl, rfl, rfl, trivial⟩ (fun _ h => h.upto ⟨rfl, rfl, rfl, trivial⟩)
      ·try simp only [za,zb,zc,zd,ze,zf,Bool.not_true,Bool.not_false,zg,zh,ne_eq,zi,zj] at g4
       refine at_on rfl rfl rfl rfl ?_
       refine op_q rfl (by decide) (qt_move rfl rfl) ?_
       refine at_on rfl rfl rfl rfl ?_
       refine op_q rfl (by decide) (qt_eql rfl rfl rfl) ?_
       refine at_on rfl rfl rfl rfl ?_
       refine op_q rfl (by decide) (qt_move rfl rfl) ?_
       refine at_bsplit 83 rfl (fun g5 => ?_) (fun g5 => ?_)
       ·try simp only [za,zb,zc,zd,ze,zf,Bool.not_true,Bool.not_false,zg,zh,ne_eq,zi,zj] at g5
        refine at_on rfl rfl rfl rfl ?_
        refine op_q rfl (by decide) (qt_fieldAddr rfl rfl tyf_impl_bound_2) ?_
        refine at_on rfl rfl rfl rfl ?_
        refine op_q rfl (by decide) (qt_load1 rfl rfl ty1_bool (rd1 (k := 2) rfl rfl)) ?_
        refine at_on rfl rfl rfl rfl ?_
        refine op_q rfl (by decide) (qt_not rfl rfl) ?_
        refine at_on rfl rfl rfl rfl ?_
        refine op_q rfl (by decide) (qt_pickT rfl rfl rfl) ?_
        refine at_q rfl rfl (by decide) (qt_pickF rfl rfl rfl) ?_
        refine at_end ?_
        exact at_meet hC_cut_10 ⟨vb (by have k := sgn_cases (x.hn * (meetLow s x).hd - (meetLow s x).hn * x.hd); have e : (meetLow s x).hn * x.hd - x.hn * (meetLow s x).hd = 0 := (by omega); simp [upHigh, e]), rfl, rfl, rfl, trivial⟩ (fun _ h => h.upto ⟨rfl, rfl, rfl, trivial⟩)
       ·try simp only [za,zb,zc,zd,ze,zf,Bool.not_true,Bool.not_false,zg,zh,ne_eq,zi,zj] at g5
        refine at_off rfl rfl rfl rfl (by decide) rfl (by decide) ?_
        refine at_off rfl rfl rfl rfl (by decide) rfl (by decide) ?_
        refine at_off rfl rfl rfl rfl (by decide) rfl (by decide) ?_
        refine at_on rfl rfl rfl rfl ?_
        refine op_q rfl (by decide) (qt_pickF rfl rfl rfl) ?_
        refine at_q rfl rfl (by decide) (qt_pickF rfl rfl rfl) ?_
        refine at_end ?_
        exact at_meet hC_cut_10 ⟨vb (by have k := sgn_cases (x.hn * (meetLow s x).hd - (meetLow s x).hn * x.hd); symm; simp [upHigh]; omega), rfl, rfl, rfl, trivial⟩ (fun _ h => h.upto ⟨rfl, rfl, rfl, trivial⟩)
     ·refine at_envE (by simp only [ya,yb]; rfl) ?_
      refine at_cond rfl (fun c4 => ?_) (fun c4 => ?_)
      ·try simp only [za,zb,zc,zd,ze,zf,Bool.not_true,Bool.not_false,zg,zh,ne_eq,zi,zj] at c4
       refine at_region ?_
       refine at_q rfl rfl (by decide) (qt_move rfl rfl) ?_
       refine at_q rfl rfl (by decide) (qt_loadS rfl rfl tys_impl_bound rfl (rdAll (k := 2) rfl)) ?_
       refine at_q rfl rfl (by decide) (qt_nilCheck rfl rfl) ?_
       refine at_q rfl rfl (by decide) (qt_fieldAddr rfl rfl tyf_impl_pixelWalk_1) ?_
       refine at_op rfl ?_
       refine op_store_6_3_3 (k := 0) rfl rfl rfl rfl (rfl) (by rfl) tyz_impl_bound.szx rfl ?_
       refine at_rsE (by simp only [ya,yb,yc,yd,Value.cells,ye]; rfl) ?_
       refine at_end ?_
       exact at_meet hC_cutif_t88 ⟨rfl, rfl, trivial⟩ (fun _ h => h.upto ⟨by rw [spMeet, meetHigh, if_pos c4] <;> rfl, rfl, rfl, trivial⟩)
      ·try simp only [za,zb,zc,zd,ze,zf,Bool.not_true,Bool.not_false,zg,zh,ne_eq,zi,zj] at c4
       refine at_skip ?_
       refine norm_then ?_
       exact at_meet hC_cutif_t88 ⟨rfl, rfl, trivial⟩ (fun _ h => h.upto ⟨by rw [spMeet, meetHigh, c4] <;> rfl, rfl, rfl, trivial⟩)
    ·refine at_envE (by simp only [ya,yb]; rfl) ?_
     refine at_seq ?_
     refine dg_start mixed rfl ?_
     refine dg_phase 10 ?_
     refine dg_q (i := 0) rfl (by kernel_rfl) (by kernel_rfl) (by kernel_rfl) [] (by kernel_rfl) (fun _ _ _ h => h) rfl rfl (by decide) (fun _ h => h.upto ⟨rfl, rfl, rfl, trivial⟩) (qt_move rfl rfl) ?_
     refine dg_q (i := 1) rfl (by kernel_rfl) (by kernel_rfl) (by kernel_rfl) [] (by kernel_rfl) (fun _ _ _ h => h) rfl rfl (by decide) (fun _ h => h.upto ⟨rfl, rfl, rfl, trivial⟩) (qt_nilCheck rfl rfl) ?_
     refine dg_q (i := 2) rfl (by kernel_rfl) (by kernel_rfl) (by kernel_rfl) [] (by kernel_rfl) (fun _ _ _ h => h) rfl rfl (by decide) (fun _ h => h.upto ⟨rfl, rfl, rfl, trivial⟩) (qt_fieldAddr rfl rfl tyf_impl_pixelWalk_0) ?_
     refine dg_q (i := 3) rfl (by kernel_rfl) (by kernel_rfl) (by kernel_rfl) [] (by kernel_rfl) (fun _ _ _ h => h) rfl rfl (by decide) (fun _ h => h.upto ⟨rfl, rfl, rfl, trivial⟩) (qt_loadS rfl rfl tys_impl_bound rfl (rd3 (k := 0) rfl rfl rfl rfl)) ?_
     refine dg_q (i := 4) rfl (by kernel_rfl) (by kernel_rfl) (by kernel_rfl) [] (by kernel_rfl) (fun _ _ _ h => h) rfl rfl (by decide) (fun _ h => h.upto ⟨rfl, rfl, rfl, trivial⟩) (qt_move rfl rfl) ?_
     refine dg_q (i := 5) rfl (by kernel_rfl) (by kernel_rfl) (by kernel_rfl) [] (by kernel_rfl) (fun _ _ _ h => h) rfl rfl (by decide) (fun _ h => h.upto ⟨rfl, rfl, rfl, trivial⟩) (qt_nilCheck rfl rfl) ?_
     refine dg_q (i := 6) rfl (by kernel_rfl) (by kernel_rfl) (by kernel_rfl) [] (by kernel_rfl) (fun _ _ _ h => h) rfl rfl (by decide) (fun _ h => h.upto ⟨rfl, rfl, rfl, trivial⟩) (qt_fieldAddr rfl rfl tyf_impl_pixelWalk_1) ?_
     refine dg_q (i := 7) rfl (by kernel_rfl) (by kernel_rfl) (by kernel_rfl) [] (by kernel_rfl) (fun _ _ _ h => h) rfl rfl (by decide) (fun _ h => h.upto ⟨rfl, rfl, rfl, trivial⟩) (qt_loadS rfl rfl tys_impl_bound rfl (rd3 (k := 0) rfl rfl rfl rfl)) ?_
     refine dg_q (i := 8) rfl (by kernel_rfl) (by kernel_rfl) (by kernel_rfl) [] (by kernel_rfl) (fun _ _ _ h => h) rfl rfl (by decide) (fun _ h => h.upto ⟨rfl, rfl, rfl, trivial⟩) (qt_call ok_impl_compareBound rfl rfl (fun w h => compareBound_any _ _ _ _ _ _ w (by assumption) (by assumption))) ?_
     refine dg_q (i := 9) rfl (by kernel_rfl) (by kernel_rfl) (by kernel_rfl) [] (by kernel_rfl) (fun _ _ _ h => h) rfl rfl (by decide) (fun _ h => h.upto ⟨rfl, rfl, rfl, trivial⟩) (qt_assign rfl rfl) ?_
     refine dg_done (by kernel_rfl) ?_
     refine norm_then ?_
     refine at_seq ?_
     refine at_region ?_
     refine at_q rfl rfl (by decide) (qt_move rfl rfl) ?_
     refine at_q rfl rfl (by decide) (qt_lss rfl rfl rfl) ?_
     refine at_q rfl rfl (by decide) (qt_move rfl rfl) ?_
     refine at_bsplit 104 rfl (fun g6 => ?_) (fun g6 => ?_)
     ·try simp only [za,zb,zc,zd,ze,zf,Bool.not_true,Bool.not_false,zg,zh,ne_eq,zi,zj] at g6
      refine at_off rfl rfl rfl rfl (by decide) rfl (by decide) ?_
      refine at_off rfl rfl rfl rfl (by decide) rfl (by decide) ?_
      refine at_off rfl rfl rfl rfl (by decide) rfl (by decide) ?_
      refine at_offu rfl rfl rfl rfl rfl (by decide) ?_
      refine at_offu rfl rfl rfl rfl rfl (by decide) ?_
      refine at_offu rfl rfl rfl rfl rfl (by decide) ?_
      refine at_offu rfl rfl rfl rfl rfl (by decide) ?_
      refine at_offu rfl rfl rfl rfl rfl (by decide) ?_
      refine at_off rfl rfl rfl rfl (by decide) rfl (by decide) ?_
      refine at_off rfl rfl rfl rfl (by decide) rfl (by decide) ?_
      refine at_offu rfl rfl rfl rfl rfl (by decide) ?_
      refine at_offu rfl rfl rfl rfl rfl (by decide) ?_
      refine at_offu rfl rfl rfl rfl rfl (by decide) ?_
      refine at_offu rfl rfl rfl rfl rfl (by decide) ?_
      refine at_offu rfl rfl rfl rfl rfl (by decide) ?_
      refine at_off rfl rfl rfl rfl (by decide) rfl (by decide) ?_
      refine at_q rfl rfl (by decide) (qt_pickT rfl rfl rfl) ?_
      refine at_q rfl rfl (by decide) (qt_assign rfl rfl) ?_
      refine at_end ?_
      refine at_retc ?_
      refine at_ret1 rfl (.tmp rfl) ?_
      intro w' hs
      have k := sgn_cases ((spMeet s x).ln * (spMeet s x).hd - (spMeet s x).hn * (spMeet s x).ld)
      exact ⟨retB (by rw [clipB, if_neg c1, ex]; symm; simp [nonE]; omega), hs.over.wr, by rw [clipS, if_neg c1, ex]; exact hs.cel (k := 0) rfl⟩
     ·try simp only [za,zb,zc,zd,ze,zf,Bool.not_true,Bool.not_false,zg,zh,ne_eq,zi,zj] at g6
      refine at_on rfl rfl rfl rfl ?_
      refine op_q rfl (by decide) (qt_move rfl rfl) ?_
      refine at_on rfl rfl rfl rfl ?_
      refine op_q rfl (by decide) (qt_eql rfl rfl rfl) ?_
      refine at_on rfl rfl rfl rfl ?_
      refine op_q rfl (by decide) (qt_move rfl rfl) ?_
      refine at_bsplit 107 rfl (fun g7 => ?_) (fun g7 => ?_)
      ·try simp only [za,zb,zc,zd,ze,zf,Bool.not_true,Bool.not_false,zg,zh,ne_eq,zi,zj] at g7
       refine at_on rfl rfl rfl rfl ?_
       refine op_q rfl (by decide) (qt_move rfl rfl) ?_
       refine at_on rfl rfl rfl rfl ?_
       refine op_q rfl (by decide) (qt_nilCheck rfl rfl) ?_
       refine at_on rfl rfl rfl rfl ?_
       refine op_q rfl (by decide) (qt_fieldAddr rfl rfl tyf_impl_pixelWalk_0) ?_
       refine at_on rfl rfl rfl rfl ?_
       refine op_q rfl (by decide) (qt_fieldAddr rfl rfl tyf_impl_bound_2) ?_
       refine at_on rfl rfl rfl rfl ?_
       refine op_q rfl (by decide) (qt_load1 rfl rfl ty1_bool (rd1 (k := 0) rfl rfl)) ?_
       refine at_on rfl rfl rfl rfl ?_
       refine op_q rfl (by decide) (qt_pickT rfl rfl rfl) ?_
       refine at_on rfl rfl rfl rfl ?_
       refine op_q rfl (by decide) (qt_move rfl rfl) ?_
       refine at_bsplit 114 rfl (fun g8 => ?_) (fun g8 => ?_)
       ·try simp only [za,zb,zc,zd,ze,zf,Bool.not_true,Bool.not_false,zg,zh,ne_eq,zi,zj] at g8
        refine at_on rfl rfl rfl rfl ?_
        refine op_q rfl (by decide) (qt_move rfl rfl) ?_
        refine at_on rfl rfl rfl rfl ?_
        refine op_q rfl (by decide) (qt_nilCheck rfl rfl) ?_
        refine at_on rfl rfl rfl rfl ?_
        refine op_q rfl (by decide) (qt_fieldAddr rfl rfl tyf_impl_pixelWalk_1) ?_
        refine at_on rfl rfl rfl rfl ?_
        refine op_q rfl (by decide) (qt_fieldAddr rfl rfl tyf_impl_bound_2) ?_
        refine at_on rfl rfl rfl rfl ?_
        refine op_q rfl (by decide) (qt_load1 rfl rfl ty1_bool (rd1 (k := 0) rfl rfl)) ?_
        refine at_on rfl rfl rfl rfl ?_
        refine op_q rfl (by decide) (qt_pickT rfl rfl rfl) ?_
        refine at_q rfl rfl (by decide) (qt_pickF rfl rfl rfl) ?_
        refine at_q rfl rfl (by decide) (qt_assign rfl rfl) ?_
        refine at_end ?_
        refine at_retc ?_
        refine at_ret1 rfl (.tmp rfl) ?_
        intro w' hs
        have k := sgn_cases ((spMeet s x).ln * (spMeet s x).hd - (spMeet s x).hn * (spMeet s x).ld)
        have e : (spMeet s x).ln * (spMeet s x).hd - (spMeet s x).hn * (spMeet s x).ld = 0 := (by omega)
        exact ⟨retB (by rw [clipB, if_neg c1, ex]; simp [nonE, e, *]), hs.over.wr, by rw [clipS, if_neg c1, ex]; exact hs.cel (k := 0) rfl⟩
       ·try simp only [za,zb,zc,zd,ze,zf,Bool.not_true,Bool.not_false,zg,zh,ne_eq,zi,zj] at g8
        refine at_off rfl rfl rfl rfl (by decide) rfl (by decide) ?_
        refine at_off rfl rfl rfl rfl (by decide) rfl (by decide) ?_
        refine at_off rfl rfl rfl rfl (by decide) rfl (by decide) ?_
        refine at_off rfl rfl rfl rfl (by decide) rfl (by decide) ?_
        refine at_off rfl rfl rfl rfl (by decide) rfl (by decide) ?_
        refine at_on rfl rfl rfl rfl ?_
        refine op_q rfl (by decide) (qt_pickF rfl rfl rfl) ?_
        refine at_q rfl rfl (by decide) (qt_pickF rfl rfl rfl) ?_
        refine at_q rfl rfl (by decide) (qt_assign rfl rfl) ?_
        refine at_end ?_
        refine at_retc ?_
        refine at_ret1 rfl (.tmp rfl) ?_
        intro w' hs
        have k := sgn_cases ((spMeet s x).ln * (spMeet s x).hd - (spMeet s x).hn * (spMeet s x).ld)
        have e : (spMeet s x).ln * (spMeet s x).hd - (spMeet s x).hn * (spMeet s x).ld = 0 := (by omega)
        exact ⟨retB (by rw [clipB, if_neg c1, ex]; simp [nonE, e, *]), hs.over.wr, by rw [clipS, if_neg c1, ex]; exact hs.cel (k := 0) rfl⟩
      ·try simp only [za,zb,zc,zd,ze,zf,Bool.not_true,Bool.not_false,zg,zh,ne_eq,zi,zj] at g7
       refine at_off rfl rfl rfl rfl (by decide) rfl (by decide) ?_
       refine at_off rfl rfl rfl rfl (by decide) rfl (by decide) ?_
       refine at_off rfl rfl rfl rfl (by decide) rfl (by decide) ?_
       refine at_off rfl rfl rfl rfl (by decide) rfl (by decide) ?_
       refine at_off rfl rfl rfl rfl (by decide) rfl (by decide) ?_
       refine at_on rfl rfl rfl rfl ?_
       refine op_q rfl (by decide) (qt_pickF rfl rfl rfl) ?_
       refine at_on rfl rfl rfl rfl ?_
       refine op_q rfl (by decide) (qt_move rfl rfl) ?_
       refine at_off rfl rfl rfl rfl (by decide) rfl (by decide) ?_
       refine at_off rfl rfl rfl rfl (by decide) rfl (by decide) ?_
       refine at_off rfl rfl rfl rfl (by decide) rfl (by decide) ?_
       refine at_off rfl rfl rfl rfl (by decide) rfl (by decide) ?_
       refine at_off rfl rfl rfl rfl (by decide) rfl (by decide) ?_
       refine at_on rfl rfl rfl rfl ?_
       refine op_q rfl (by decide) (qt_pickF rfl rfl rfl) ?_
       refine at_q rfl rfl (by decide) (qt_pickF rfl rfl rfl) ?_
       refine at_q rfl rfl (by decide) (qt_assign rfl rfl) ?_
       refine at_end ?_
       refine at_retc ?_
       refine at_ret1 rfl (.tmp rfl) ?_
       intro w' hs
       have k := sgn_cases ((spMeet s x).ln * (spMeet s x).hd - (spMeet s x).hn * (spMeet s x).ld)
       exact ⟨retB (by rw [clipB, if_neg c1, ex]; symm; simp [nonE]; omega), hs.over.wr, by rw [clipS, if_neg c1, ex]; exact hs.cel (k := 0) rfl⟩
abbrev walkV (s : Sp) : Value := .agg #[.int .i64 s.ln, .int .i64 s.ld, .bool s.lc, .int .i64 s.hn, .int .i64 s.hd, .bool s.hc]
theorem sp0_bd : bdP sp0 := ⟨⟨by decide, by decide⟩, by decide, by decide⟩
theorem clipS_bd {s : Sp} {f d lo : Int} (hs : bdP s) (hx : bdP (pixX f d lo)) : bdP (clipS s f d lo) := by
 unfold clipS; split
 ·exact hs
 ·exact meetHigh_bd (meetLow_bd hs hx) hx

theorem walkPixel_any (ax ay bx b_y px_ py_ : Int) (w : World) (ha : okB ax ay = true) (hb : okB bx b_y = true) (hp : okB px_ py_ = true) :
  Calls Tryz.prog 66 #[ptV ax ay, ptV bx b_y, ptV px_ py_] w fun e w' => e = .returned (.tuple #[walkV (if clipB sp0 (2 * ax) (2 * (bx - ax)) (2 * px_ - 1) = true then clipS (clipS sp0 (2 * ax) (2 * (bx - ax)) (2 * px_ - 1)) (2 * ay) (2 * (b_y - ay)) (2 * py_ - 1) else clipS sp0 (2 * ax) (2 * (bx - ax)) (2 * px_ - 1)),
   .bool (clipB sp0 (2 * ax) (2 * (bx - ax)) (2 * px_ - 1) && clipB (clipS sp0 (2 * ax) (2 * (bx - ax)) (2 * px_ - 1)) (2 * ay) (2 * (b_y - ay)) (2 * py_ - 1))]) ∧ Over w w' := by
 simp [okB, inB] at ha hb hp
 have hs1 := clipS_bd (f := 2 * ax) (d := 2 * (bx - ax)) (lo := 2 * px_ - 1) sp0_bd (pixX_bd _ _ _ (by omega) (by omega) (by omega) (by omega) (by omega) (by omega))
 refine walk_from (m := 45) (Tryz.func66) rfl rfl (Nat.le_of_ble_eq_true rfl) ?_
 refine at_seq ?_
 refine at_region ?_
 refine at_op rfl ?_
 refine op_box rfl rfl (rfl) rfl (by decide) (fun b1 => ?_)
 refine at_rsE (by simp only [ya,yb,yc,yd,Value.cells,ye]; rfl) ?_
 refine at_op rfl ?_
 refine op_box rfl rfl (rfl) rfl (by decide) (fun b2 => ?_)
 refine at_rsE (by simp only [ya,yb,yc,yd,Value.cells,ye]; rfl) ?_
 refine at_op rfl ?_
 refine op_box rfl rfl (rfl) rfl (by decide) (fun b3 => ?_)
 refine at_rsE (by simp only [ya,yb,yc,yd,Value.cells,ye]; rfl) ?_
 refine at_op rfl ?_
 refine op_alloc rfl tyz_impl_pixelWalk rfl (by decide) (fun b4 => ?_)
 refine at_rsE (by simp only [ya,yb,yc,yd,Value.cells,ye]; rfl) ?_
 refine at_q rfl rfl (by decide) (qt_assign rfl rfl) ?_
 refine at_end ?_
 refine at_seq ?_
 refine at_region ?_
 refine at_q rfl rfl (by decide) (qt_build rfl rfl (bld_impl_bound_0_1_2 rfl rfl rfl)) ?_
 refine at_q rfl rfl (by decide) (qt_build rfl rfl (bld_impl_bound_0_1_2 rfl rfl rfl)) ?_
 refine at_q rfl rfl (by decide) (qt_build rfl rfl (bld_impl_pixelWalk_0_1 rfl rfl)) ?_
 refine at_op rfl ?_
 refine op_alloc rfl tyz_impl_pixelWalk rfl (by decide) (fun b5 => ?_)
 refine at_rsE (by simp only [ya,yb,yc,yd,Value.cells,ye]; rfl) ?_
 refine at_op rfl ?_
 refine op_storeAll' (k := 4) rfl rfl rfl rfl (rfl) (by rfl) tyz_impl_pixelWalk.szx rfl rfl rfl ?_
 refine at_rsE (by simp only [ya,yb,yc,yd,Value.cells,ye]; rfl) ?_
 refine at_end ?_
 refine at_seq ?_
 refine at_rs (Rs' := [.cel b1 64 [.int .i64 ax, .int .i64 ay], .cel b2 64 [.int .i64 bx, .int .i64 b_y], .cel b3 64 [.int .i64 px_, .int .i64 py_], .cel b4 107 [.int .i64 0, .int .i64 0, .bool false, .int .i64 0, .int .i64 0, .bool false], .cel b5 107 (spCs sp0)]) (fun _ h => h) ?_
 refine at_region ?_
 refine at_q rfl rfl (by decide) (qt_fieldAddr rfl rfl tyf_impl_Pt_0) ?_
 refine at_q rfl rfl (by decide) (qt_load1 rfl rfl ty1_int64 (rd1 (k := 0) rfl rfl)) ?_
 refine at_q rfl rfl (by decide) (qt_mul rfl rfl rfl (by omega) (by omega)) ?_
 refine at_q rfl rfl (by decide) (qt_fieldAddr rfl rfl tyf_impl_Pt_0) ?_
 refine at_q rfl rfl (by decide) (qt_load1 rfl rfl ty1_int64 (rd1 (k := 1) rfl rfl)) ?_
 refine at_q rfl rfl (by decide) (qt_fieldAddr rfl rfl tyf_impl_Pt_0) ?_
 refine at_q rfl rfl (by decide) (qt_load1 rfl rfl ty1_int64 (rd1 (k := 0) rfl rfl)) ?_
 refine at_q rfl rfl (by decide) (qt_sub rfl rfl rfl (by omega) (by omega)) ?_
 refine at_q rfl rfl (by decide) (qt_mul rfl rfl rfl (by omega) (by omega)) ?_
 refine at_q rfl rfl (by decide) (qt_fieldAddr rfl rfl tyf_impl_Pt_0) ?_
 refine at_q rfl rfl (by decide) (qt_load1 rfl rfl ty1_int64 (rd1 (k := 2) rfl rfl)) ?_
 refine at_q rfl rfl (by decide) (qt_mul rfl rfl rfl (by omega) (by omega)) ?_
 refine at_q rfl rfl (by decide) (qt_sub rfl rfl rfl (by omega) (by omega)) ?_
 refine at_op rfl ?_
 refine op_callm (k := 4) ok_p_impl_pixelWalk_clip rfl rfl rfl (by decide) rfl (fun w h => clip_any b5 sp0 (2 * ax) (2 * (bx - ax)) (2 * px_ - 1) w sp0_bd (by omega) (by omega) (by omega) (by omega) (by omega) (by omega) (h.cel (k := 4) rfl)) ?_
 refine at_rsE (by simp only [ya,yb,yc,yd,Value.cells,ye]; rfl) ?_
 refine at_q rfl rfl (by decide) (qt_move rfl rfl) ?_
 refine at_bsplit 27 rfl (fun g1 => ?_) (fun g1 => ?_)
 ·try simp only [za,zb,zc,zd,ze,zf,Bool.not_true,Bool.not_false,zg,zh,ne_eq,zi,zj] at g1
  refine at_on rfl rfl rfl rfl ?_
  refine op_q rfl (by decide) (qt_fieldAddr rfl rfl tyf_impl_Pt_1) ?_
  refine at_on rfl rfl rfl rfl ?_
  refine op_q rfl (by decide) (qt_load1 rfl rfl ty1_int64 (rd1 (k := 0) rfl rfl)) ?_
  refine at_on rfl rfl rfl rfl ?_
  refine op_q rfl (by decide) (qt_mul rfl rfl rfl (by omega) (by omega)) ?_
  refine at_on rfl rfl rfl rfl ?_
  refine op_q rfl (by decide) (qt_fieldAddr rfl rfl tyf_impl_Pt_1) ?_
  refine at_on rfl rfl rfl rfl ?_
  refine op_q rfl (by decide) (qt_load1 rfl rfl ty1_int64 (rd1 (k := 1) rfl rfl)) ?_
  refine at_on rfl rfl rfl rfl ?_
  refine op_q rfl (by decide) (qt_fieldAddr rfl rfl tyf_impl_Pt_1) ?_
  refine at_on rfl rfl rfl rfl ?_
  refine op_q rfl (by decide) (qt_load1 rfl rfl ty1_int64 (rd1 (k := 0) rfl rfl)) ?_
  refine at_on rfl rfl rfl rfl ?_
  refine op_q rfl (by decide) (qt_sub rfl rfl rfl (by omega) (by omega)) ?_
  refine at_on rfl rfl rfl rfl ?_
  refine op_q rfl (by decide) (qt_mul rfl rfl rfl (by omega) (by omega)) ?_
  refine at_on rfl rfl rfl rfl ?_
  refine op_q rfl (by decide) (qt_fieldAddr rfl rfl tyf_impl_Pt_1) ?_
  refine at_on rfl rfl rfl rfl ?_
  refine op_q rfl (by decide) (qt_load1 rfl rfl ty1_int64 (rd1 (k := 2) rfl rfl)) ?_
  refine at_on rfl rfl rfl rfl ?_
  refine op_q rfl (by decide) (qt_mul rfl rfl rfl (by omega) (by omega)) ?_
  refine at_on rfl rfl rfl rfl ?_
  refine op_q rfl (by decide) (qt_sub rfl rfl rfl (by omega) (by omega)) ?_
  refine at_on rfl rfl rfl rfl ?_
  refine op_callm (k := 4) ok_p_impl_pixelWalk_clip rfl rfl rfl (by decide) rfl (fun w h => clip_any b5 (clipS sp0 (2 * ax) (2 * (bx - ax)) (2 * px_ - 1)) (2 * ay) (2 * (b_y - ay)) (2 * py_ - 1) w hs1 (by omega) (by omega) (by omega) (by omega) (by omega) (by omega) (h.cel (k := 4) rfl)) ?_
  refine at_rsE (by simp only [ya,yb,yc,yd,Value.cells,ye]; rfl) ?_
  refine at_q rfl rfl (by decide) (qt_pickT rfl rfl rfl) ?_
  refine at_q rfl rfl (by decide) (qt_assign rfl rfl) ?_
  refine at_end ?_
  refine at_seq ?_
  refine at_region ?_
  refine at_q rfl rfl (by decide) (qt_loadS rfl rfl tys_impl_pixelWalk rfl (rdAll (k := 4) rfl)) ?_
  refine at_q rfl rfl (by decide) (qt_move rfl rfl) ?_
  refine at_op rfl ?_
  refine op_storeAll' (k := 3) rfl rfl rfl rfl (rfl) (by rfl) tyz_impl_pixelWalk.szx rfl rfl rfl ?_
  refine at_rsE (by simp only [ya,yb,yc,yd,Value.cells,ye]; rfl) ?_
  refine at_q rfl rfl (by decide) (qt_assign rfl rfl) ?_
  refine at_end ?_
  refine at_retc ?_
  refine at_ret2 rfl (rvCelS (k := 3) rfl tys_impl_pixelWalk rfl rfl) (.tmp rfl) ?_
  intro w' hs
  exact ⟨by rw [if_pos g1, g1, Bool.true_and]; rfl, hs.fin⟩
 ·try simp only [za,zb,zc,zd,ze,zf,Bool.not_true,Bool.not_false,zg,zh,ne_eq,zi,zj] at g1
  refine at_off rfl rfl rfl rfl (by decide) rfl (by decide) ?_
  refine at_off rfl rfl rfl rfl (by decide) rfl (by decide) ?_
  refine at_off rfl rfl rfl rfl (by decide) rfl (by decide) ?_
  refine at_off rfl rfl rfl rfl (by decide) rfl (by decide) ?_
  refine at_off rfl rfl rfl rfl (by decide) rfl (by decide) ?_
  refine at_off rfl rfl rfl rfl (by decide) rfl (by decide) ?_
  refine at_off rfl rfl rfl rfl (by decide) rfl (by decide) ?_
  refine at_off rfl rfl rfl rfl (by decide) rfl (by decide) ?_
  refine at_off rfl rfl rfl rfl (by decide) rfl (by decide) ?_
  refine at_off rfl rfl rfl rfl (by decide) rfl (by decide) ?_
  refine at_off rfl rfl rfl rfl (by decide) rfl (by decide) ?_
  refine at_off rfl rfl rfl rfl (by decide) rfl (by decide) ?_
  refine at_off rfl rfl rfl rfl (by decide) rfl (by decide) ?_
  refine at_off rfl rfl rfl rfl (by decide) rfl (by decide) ?_
  refine at_q rfl rfl (by decide) (qt_pickF rfl rfl rfl) ?_
  refine at_q rfl rfl (by decide) (qt_assign rfl rfl) ?_
  refine at_end ?_
  refine at_seq ?_
  refine at_region ?_
  refine at_q rfl rfl (by decide) (qt_loadS rfl rfl tys_impl_pixelWalk rfl (rdAll (k := 4) rfl)) ?_
  refine at_q rfl rfl (by decide) (qt_move rfl rfl) ?_
  refine at_op rfl ?_
  refine op_storeAll' (k := 3) rfl rfl rfl rfl (rfl) (by rfl) tyz_impl_pixelWalk.szx rfl rfl rfl ?_
  refine at_rsE (by simp only [ya,yb,yc,yd,Value.cells,ye]; rfl) ?_
  refine at_q rfl rfl (by decide) (qt_assign rfl rfl) ?_
  refine at_end ?_
  refine at_retc ?_
  refine at_ret2 rfl (rvCelS (k := 3) rfl tys_impl_pixelWalk rfl rfl) (.tmp rfl) ?_
  intro w' hs
  exact ⟨by rw [if_neg (by rw [g1]; simp), g1, Bool.false_and]; rfl, hs.fin⟩

/-! ### The reference -/
abbrev spV (s : Sp) : Value := .agg #[.int .i64 s.ln, .int .i64 s.ld, .int .i64 s.hn, .int .i64 s.hd, .bool s.lc, .bool s.hc]
def spC (s : Sp) : List Value := [.int .i64 s.ln, .int .i64 s.ld, .int .i64 s.hn, .int .i64 s.hd, .bool s.lc, .bool s.hc]
theorem l13Clip_any (f d lo hi : Int) (w : World) (hh : hi = lo + 2) (f1 : -1048576 ≤ f) (f2 : f ≤ 1048576) (d1 : -1048576 ≤ d) (d2 : d ≤ 1048576) (l1 : -1048576 ≤ lo) (l2 : lo ≤ 1048576) :
  Calls Tryz.prog 113 #[.int .i64 f, .int .i64 d, .int .i64 lo, .int .i64 hi] w fun e w' => e = .returned (.tuple #[spV (pixX f d lo), .bool (pixIn f d lo)]) ∧ Over w w' := by
 subst hh
 have tv : ∀ {s s' : Sp} {a a' : Bool}, s' = s → a' = a → Ending.returned (.tuple #[spV s, .bool a]) = Ending.returned (.tuple #[spV s', .bool a']) := fun h1 h2 => by rw [h1, h2]
 refine walk_from (m := 45) (Tryz.func113) rfl rfl (Nat.le_of_ble_eq_true rfl) ?_
 refine at_seq ?_
 refine at_region ?_
 refine at_op rfl ?_
 refine op_alloc rfl tyz_spec_l13Span rfl (by decide) (fun b1 => ?_)
 refine at_rsE (by simp only [ya,yb,yc,yd,Value.cells,ye]; rfl) ?_
 refine at_q rfl rfl (by decide) (qt_assign rfl rfl) ?_
 refine at_end ?_
 refine at_seq ?_
 refine at_block ?_
 refine at_seq ?_
 refine at_region ?_
 refine at_q rfl rfl (by decide) (qt_move rfl rfl) ?_
 refine at_q rfl rfl (by decide) (qt_gtr rfl rfl rfl) ?_
 refine at_q rfl rfl (by decide) (qt_assign rfl rfl) ?_
 refine at_end ?_
 refine at_cond rfl (fun c1 => ?_) (fun c1 => ?_)
 ·try simp only [za,zb,zc,zd,ze,zf,Bool.not_true,Bool.not_false,zg,zh,ne_eq,zi,zj] at c1
  refine at_seq ?_
  refine at_region ?_
  refine at_q rfl rfl (by decide) (qt_move rfl rfl) ?_
  refine at_q rfl rfl (by decide) (qt_move rfl rfl) ?_
  refine at_q rfl rfl (by decide) (qt_sub rfl rfl rfl (by omega) (by omega)) ?_
  refine at_q rfl rfl (by decide) (qt_move rfl rfl) ?_
  refine at_q rfl rfl (by decide) (qt_move rfl rfl) ?_
  refine at_q rfl rfl (by decide) (qt_move rfl rfl) ?_
  refine at_q rfl rfl (by decide) (qt_sub rfl rfl rfl (by omega) (by omega)) ?_
  refine at_q rfl rfl (by decide) (qt_move rfl rfl) ?_
  refine at_q rfl rfl (by decide) (qt_build rfl rfl (bld_spec_l13Span_0_1_2_3_4 rfl rfl rfl rfl rfl)) ?_
  refine at_op rfl ?_
  refine op_storeAll' (k := 0) rfl rfl rfl rfl (rfl) (by rfl) tyz_spec_l13Span.szx rfl rfl rfl ?_
  refine at_rsE (by simp only [ya,yb,yc,yd,Value.cells,ye]; rfl) ?_
  refine at_q rfl rfl (by decide) (qt_assign rfl rfl) ?_
  refine at_end ?_
  refine at_retc ?_
  refine pass_ret ?_
  refine then_ret ?_
  refine at_ret2 rfl (rvCelS (k := 0) rfl tys_spec_l13Span rfl rfl) (.tmp rfl) ?_
  intro w' hs
  exact ⟨tv (s := ⟨lo - f, d, true, lo + 2 - f, d, false⟩) (by rw [pixX, if_pos c1]) (by simp [pixIn]; omega), hs.fin⟩
 ·try simp only [za,zb,zc,zd,ze,zf,Bool.not_true,Bool.not_false,zg,zh,ne_eq,zi,zj] at c1
  refine at_seq ?_
  refine at_region ?_
  refine at_q rfl rfl (by decide) (qt_move rfl rfl) ?_
  refine at_q rfl rfl (by decide) (qt_lss rfl rfl rfl) ?_
  refine at_q rfl rfl (by decide) (qt_assign rfl rfl) ?_
  refine at_end ?_
  refine at_cond rfl (fun c2 => ?_) (fun c2 => ?_)
  ·try simp only [za,zb,zc,zd,ze,zf,Bool.not_true,Bool.not_false,zg,zh,ne_eq,zi,zj] at c2
   refine at_seq ?_
   refine at_region ?_
   refine at_q rfl rfl (by decide) (qt_move rfl rfl) ?_
   refine at_q rfl rfl (by decide) (qt_move rfl rfl) ?_
   refine at_q rfl rfl (by decide) (qt_sub rfl rfl rfl (by omega) (by omega)) ?_
   refine at_q rfl rfl (by decide) (qt_move rfl rfl) ?_
   refine at_q rfl rfl (by decide) (qt_neg rfl rfl (by omega) (by omega)) ?_
   refine at_q rfl rfl (by decide) (qt_move rfl rfl) ?_
   refine at_q rfl rfl (by decide) (qt_move rfl rfl) ?_
   refine at_q rfl rfl (by decide) (qt_sub rfl rfl rfl (by omega) (by omega)) ?_
   refine at_q rfl rfl (by decide) (qt_move rfl rfl) ?_
   refine at_q rfl rfl (by decide) (qt_neg rfl rfl (by omega) (by omega)) ?_
   refine at_q rfl rfl (by decide) (qt_build rfl rfl (bld_spec_l13Span_0_1_2_3_5 rfl rfl rfl rfl rfl)) ?_
   refine at_op rfl ?_
   refine op_storeAll' (k := 0) rfl rfl rfl rfl (rfl) (by rfl) tyz_spec_l13Span.szx rfl rfl rfl ?_
   refine at_rsE (by simp only [ya,yb,yc,yd,Value.cells,ye]; rfl) ?_
   refine at_q rfl rfl (by decide) (qt_assign rfl rfl) ?_
   refine at_end ?_
   refine at_retc ?_
   refine pass_ret ?_
   refine then_ret ?_
   refine at_ret2 rfl (rvCelS (k := 0) rfl tys_spec_l13Span rfl rfl) (.tmp rfl) ?_
   intro w' hs
   exact ⟨tv (s := ⟨f - (lo + 2), -d, false, f - lo, -d, true⟩) (by rw [pixX, if_neg (by omega), if_pos c2]; congr 1; omega) (by simp [pixIn]; omega), hs.fin⟩
  ·try simp only [za,zb,zc,zd,ze,zf,Bool.not_true,Bool.not_false,zg,zh,ne_eq,zi,zj] at c2
   refine at_skip ?_
   refine norm_block ?_
   refine norm_then ?_
   refine at_seq ?_
   refine at_region ?_
   refine at_q rfl rfl (by decide) (qt_build rfl rfl (bld_spec_l13Span_0_1_2_3_4_5 rfl rfl rfl rfl rfl rfl)) ?_
   refine at_q rfl rfl (by decide) (qt_move rfl rfl) ?_
   refine at_q rfl rfl (by decide) (qt_move rfl rfl) ?_
   refine at_q rfl rfl (by decide) (qt_leq rfl rfl rfl) ?_
   refine at_q rfl rfl (by decide) (qt_move rfl rfl) ?_
   refine at_bsplit 40 rfl (fun g1 => ?_) (fun g1 => ?_)
   ·try simp only [za,zb,zc,zd,ze,zf,Bool.not_true,Bool.not_false,zg,zh,ne_eq,zi,zj] at g1
    refine at_on rfl rfl rfl rfl ?_
    refine op_q rfl (by decide) (qt_move rfl rfl) ?_
    refine at_on rfl rfl rfl rfl ?_
    refine op_q rfl (by decide) (qt_move rfl rfl) ?_
    refine at_on rfl rfl rfl rfl ?_
    refine op_q rfl (by decide) (qt_lss rfl rfl rfl) ?_
    refine at_q rfl rfl (by decide) (qt_pickT rfl rfl rfl) ?_
    refine at_op rfl ?_
    refine op_storeAll' (k := 0) rfl rfl rfl rfl (rfl) (by rfl) tyz_spec_l13Span.szx rfl rfl rfl ?_
    refine at_rsE (by simp only [ya,yb,yc,yd,Value.cells,ye]; rfl) ?_
    refine at_q rfl rfl (by decide) (qt_assign rfl rfl) ?_
    refine at_end ?_
    refine at_retc ?_
    refine at_ret2 rfl (rvCelS (k := 0) rfl tys_spec_l13Span rfl rfl) (.tmp rfl) ?_
    intro w' hs
    exact ⟨tv (s := sp0) (by rw [pixX, if_neg (by omega), if_neg (by omega)]) (by simp [pixIn, show d = 0 by omega, g1]), hs.fin⟩
   ·try simp only [za,zb,zc,zd,ze,zf,Bool.not_true,Bool.not_false,zg,zh,ne_eq,zi,zj] at g1
    refine at_off rfl rfl rfl rfl (by decide) rfl (by decide) ?_
    refine at_off rfl rfl rfl rfl (by decide) rfl (by decide) ?_
    refine at_off rfl rfl rfl rfl (by decide) rfl (by decide) ?_
    refine at_q rfl rfl (by decide) (qt_pickF rfl rfl rfl) ?_
    refine at_op rfl ?_
    refine op_storeAll' (k := 0) rfl rfl rfl rfl (rfl) (by rfl) tyz_spec_l13Span.szx rfl rfl rfl ?_
    refine at_rsE (by simp only [ya,yb,yc,yd,Value.cells,ye]; rfl) ?_
    refine at_q rfl rfl (by decide) (qt_assign rfl rfl) ?_
    refine at_end ?_
    refine at_retc ?_
    refine at_ret2 rfl (rvCelS (k := 0) rfl tys_spec_l13Span rfl rfl) (.tmp rfl) ?_
    intro w' hs
    exact ⟨tv (s := sp0) (by rw [pixX, if_neg (by omega), if_neg (by omega)]) (by simp [pixIn, show d = 0 by omega]; omega), hs.fin⟩
theorem bd_mul {a b c d : Int} (h : bd1 a b) (k : bd1 c d) : (-4398046511104 ≤ a * d ∧ a * d ≤ 4398046511104) ∧ (-4398046511104 ≤ c * b ∧ c * b ≤ 4398046511104) := by
 obtain ⟨⟨a1, a2⟩, a3, a4⟩ := h
 obtain ⟨⟨b1, b2⟩, b3, b4⟩ := k
 exact ⟨mul_bd a1 a2 b3 b4, mul_bd b1 b2 a3 a4⟩
theorem l13Meet_any (s x : Sp) (w : World) (hs : bdP s) (hx : bdP x) :
  Calls Tryz.prog 114 #[spV s, spV x] w fun e w' => e = .returned (spV (spMeet s x)) ∧ Over w w' := by
 have hs1 := meetLow_bd hs hx
 obtain ⟨m1, m2⟩ := bd_mul hs.low hx.low
 obtain ⟨m3, m4⟩ := bd_mul hs1.high hx.high
 refine walk_from (m := 70) (Tryz.func114) rfl rfl (Nat.le_of_ble_eq_true rfl) ?_
 refine at_seq ?_
 refine at_region ?_
 refine at_op rfl ?_
 refine op_box rfl rfl (rfl) rfl (by decide) (fun b1 => ?_)
 refine at_rsE (by simp only [ya,yb,yc,yd,Value.cells,ye]; rfl) ?_
 refine at_op rfl ?_
 refine op_box rfl rfl (rfl) rfl (by decide) (fun b2 => ?_)
 refine at_rsE (by simp only [ya,yb,yc,yd,Value.cells,ye]; rfl) ?_
 refine at_op rfl ?_
 refine op_alloc rfl tyz_spec_l13Span rfl (by decide) (fun b3 => ?_)
 refine at_rsE (by simp only [ya,yb,yc,yd,Value.cells,ye]; rfl) ?_
 refine at_end ?_
 refine at_seq ?_
 refine at_region ?_
 refine at_q rfl rfl (by decide) (qt_fieldAddr rfl rfl tyf_spec_l13Span_0) ?_
 refine at_q rfl rfl (by decide) (qt_load1 rfl rfl ty1_int64 (rd1 (k := 0) rfl rfl)) ?_
 refine at_q rfl rfl (by decide) (qt_fieldAddr rfl rfl tyf_spec_l13Span_1) ?_
 refine at_q rfl rfl (by decide) (qt_load1 rfl rfl ty1_int64 (rd1 (k := 1) rfl rfl)) ?_
 refine at_q rfl rfl (by decide) (qt_mul rfl rfl rfl (by omega) (by omega)) ?_
 refine at_q rfl rfl (by decide) (qt_fieldAddr rfl rfl tyf_spec_l13Span_0) ?_
 refine at_q rfl rfl (by decide) (qt_load1 rfl rfl ty1_int64 (rd1 (k := 1) rfl rfl)) ?_
 refine at_q rfl rfl (by decide) (qt_fieldAddr rfl rfl tyf_spec_l13Span_1) ?_
 refine at_q rfl rfl (by decide) (qt_load1 rfl rfl ty1_int64 (rd1 (k := 0) rfl rfl)) ?_
 refine at_q rfl rfl (by decide) (qt_mul rfl rfl rfl (by omega) (by omega)) ?_
 refine at_q rfl rfl (by decide) (qt_sub rfl rfl rfl (by omega) (by omega)) ?_
 refine at_q rfl rfl (by decide) (qt_assign rfl rfl) ?_
 refine at_end ?_
 refine at_cut [] (C := [(2, _), (3, _), (4, _)]) ([.cel b1 140 (spC (meetLow s x)), .cel b2 140 (spC x), .cel b3 140 [.int .i64 0, .int .i64 0, .int .i64 0, .int .i64 0, .bool false, .bool false]]) ⟨rfl, rfl, rfl, trivial⟩ (fun L hC_cutif_t28 => ?_) ?_
 ·refine at_cutE [(28, .bool (upLow s x))] (C := [(2, _), (3, _), (4, _)])  ⟨rfl, rfl, rfl, trivial⟩ (fun L hC_cut_2 => ?_) ?_
  ·refine at_region ?_
   refine at_q rfl rfl (by decide) (qt_move rfl rfl) ?_
   refine at_q rfl rfl (by decide) (qt_lss rfl rfl rfl) ?_
   refine at_q rfl rfl (by decide) (qt_move rfl rfl) ?_
   refine at_bsplit 20 rfl (fun g1 => ?_) (fun g1 => ?_)
   ·try simp only [za,zb,zc,zd,ze,zf,Bool.not_true,Bool.not_false,zg,zh,ne_eq,zi,zj] at g1
    refine at_off rfl rfl rfl rfl (by decide) rfl (by decide) ?_
    refine at_off rfl rfl rfl rfl (by decide) rfl (by decide) ?_
    refine at_off rfl rfl rfl rfl (by decide) rfl (by decide) ?_
    refine at_offu rfl rfl rfl rfl rfl (by decide) ?_
    refine at_offu rfl rfl rfl rfl rfl (by decide) ?_
    refine at_offu rfl rfl rfl rfl rfl (by decide) ?_
    refine at_off rfl rfl rfl rfl (by decide) rfl (by decide) ?_
    refine at_q rfl rfl (by decide) (qt_pickT rfl rfl rfl) ?_
    refine at_end ?_
    exact at_meet hC_cut_2 ⟨vb (by symm; simp [upLow]; omega), rfl, rfl, rfl, trivial⟩ (fun _ h => h.upto ⟨rfl, rfl, rfl, trivial⟩)
   ·try simp only [za,zb,zc,zd,ze,zf,Bool.not_true,Bool.not_false,zg,zh,ne_eq,zi,zj] at g1
    refine at_on rfl rfl rfl rfl ?_
    refine op_q rfl (by decide) (qt_move rfl rfl) ?_
    refine at_on rfl rfl rfl rfl ?_
    refine op_q rfl (by decide) (qt_eql rfl rfl rfl) ?_
    refine at_on rfl rfl rfl rfl ?_
    refine op_q rfl (by decide) (qt_move rfl rfl) ?_
    refine at_bsplit 23 rfl (fun g2 => ?_) (fun g2 => ?_)
    ·try simp only [za,zb,zc,zd,ze,zf,Bool.not_true,Bool.not_false,zg,zh,ne_eq,zi,zj] at g2
     refine at_on rfl rfl rfl rfl ?_
     refine op_q rfl (by decide) (qt_fieldAddr rfl rfl tyf_spec_l13Span_4) ?_
     refine at_on rfl rfl rfl rfl ?_
     refine op_q rfl (by decide) (qt_load1 rfl rfl ty1_bool (rd1 (k := 1) rfl rfl)) ?_
     refine at_on rfl rfl rfl rfl ?_
     refine op_q rfl (by decide) (qt_not rfl rfl) ?_
     refine at_on rfl rfl rfl rfl ?_
     refine op_q rfl (by decide) (qt_pickT rfl rfl rfl) ?_
     refine at_q rfl rfl (by decide) (qt_pickF rfl rfl rfl) ?_
     refine at_end ?_
     exact at_meet hC_cut_2 ⟨vb (by simp [upLow, g2]), rfl, rfl, rfl, trivial⟩ (fun _ h => h.upto ⟨rfl, rfl, rfl, trivial⟩)
    ·try simp only [za,zb,zc,zd,ze,zf,Bool.not_true,Bool.not_false,zg,zh,ne_eq,zi,zj] at g2
     refine at_off rfl rfl rfl rfl (by decide) rfl (by decide) ?_
     refine at_off rfl rfl rfl rfl (by decide) rfl (by decide) ?_
     refine at_off rfl rfl rfl rfl (by decide) rfl (by decide) ?_
     refine at_on rfl rfl rfl rfl ?_
     refine op_q rfl (by decide) (qt_pickF rfl rfl rfl) ?_
     refine at_q rfl rfl (by decide) (qt_pickF rfl rfl rfl) ?_
     refine at_end ?_
     exact at_meet hC_cut_2 ⟨vb (by symm; simp [upLow]; omega), rfl, rfl, rfl, trivial⟩ (fun _ h => h.upto ⟨rfl, rfl, rfl, trivial⟩)
  ·refine at_envE (by simp only [ya,yb]; rfl) ?_
   refine at_cond rfl (fun c1 => ?_) (fun c1 => ?_)
   ·try simp only [za,zb,zc,zd,ze,zf,Bool.not_true,Bool.not_false,zg,zh,ne_eq,zi,zj] at c1
    refine at_seq ?_
    refine at_region ?_
    refine at_q rfl rfl (by decide) (qt_fieldAddr rfl rfl tyf_spec_l13Span_0) ?_
    refine at_q rfl rfl (by decide) (qt_load1 rfl rfl ty1_int64 (rd1 (k := 1) rfl rfl)) ?_
    refine at_q rfl rfl (by decide) (qt_fieldAddr rfl rfl tyf_spec_l13Span_0) ?_
    refine at_op rfl ?_
    refine op_store_6_0_1 (k := 0) rfl rfl rfl rfl (rfl) (by rfl) tyz_int64.szx rfl ?_
    refine at_rsE (by simp only [ya,yb,yc,yd,Value.cells,ye]; rfl) ?_
    refine at_end ?_
    refine at_seq ?_
    refine at_region ?_
    refine at_q rfl rfl (by decide) (qt_fieldAddr rfl rfl tyf_spec_l13Span_1) ?_
    refine at_q rfl rfl (by decide) (qt_load1 rfl rfl ty1_int64 (rd1 (k := 1) rfl rfl)) ?_
    refine at_q rfl rfl (by decide) (qt_fieldAddr rfl rfl tyf_spec_l13Span_1) ?_
    refine at_op rfl ?_
    refine op_store_6_1_1 (k := 0) rfl rfl rfl rfl (rfl) (by rfl) tyz_int64.szx rfl ?_
    refine at_rsE (by simp only [ya,yb,yc,yd,Value.cells,ye]; rfl) ?_
    refine at_end ?_
    refine at_region ?_
    refine at_q rfl rfl (by decide) (qt_fieldAddr rfl rfl tyf_spec_l13Span_4) ?_
    refine at_q rfl rfl (by decide) (qt_load1 rfl rfl ty1_bool (rd1 (k := 1) rfl rfl)) ?_
    refine at_q rfl rfl (by decide) (qt_fieldAddr rfl rfl tyf_spec_l13Span_4) ?_
    refine at_op rfl ?_
    refine op_store_6_4_1 (k := 0) rfl rfl rfl rfl (rfl) (by rfl) tyz_bool.szx rfl ?_
    refine at_rsE (by simp only [ya,yb,yc,yd,Value.cells,ye]; rfl) ?_
    refine at_end ?_
    exact at_meet hC_cutif_t28 ⟨rfl, rfl, rfl, trivial⟩ (fun _ h => h.upto ⟨by rw [meetLow, if_pos c1] <;> rfl, rfl, rfl, trivial⟩)
   ·try simp only [za,zb,zc,zd,ze,zf,Bool.not_true,Bool.not_false,zg,zh,ne_eq,zi,zj] at c1
    refine at_skip ?_
    refine norm_then ?_
    exact at_meet hC_cutif_t28 ⟨rfl, rfl, rfl, trivial⟩ (fun _ h => h.upto ⟨by rw [meetLow, c1] <;> rfl, rfl, rfl, trivial⟩)
 ·refine at_envE (by simp only [ya,yb]; rfl) ?_
  refine at_seq ?_
  refine at_region ?_
  refine at_q rfl rfl (by decide) (qt_fieldAddr rfl rfl tyf_spec_l13Span_2) ?_
  refine at_q rfl rfl (by decide) (qt_load1 rfl rfl ty1_int64 (rd1 (k := 0) rfl rfl)) ?_
  refine at_q rfl rfl (by decide) (qt_fieldAddr rfl rfl tyf_spec_l13Span_3) ?_
  refine at_q rfl rfl (by decide) (qt_load1 rfl rfl ty1_int64 (rd1 (k := 1) rfl rfl)) ?_
  refine at_q rfl rfl (by decide) (qt_mul rfl rfl rfl (by omega) (by omega)) ?_
  refine at_q rfl rfl (by decide) (qt_fieldAddr rfl rfl tyf_spec_l13Span_2) ?_
  refine at_q rfl rfl (by decide) (qt_load1 rfl rfl ty1_int64 (rd1 (k := 1) rfl rfl)) ?_
  refine at_q rfl rfl (by decide) (qt_fieldAddr rfl rfl tyf_spec_l13Span_3) ?_
  refine at_q rfl rfl (by decide) (qt_load1 rfl rfl ty1_int64 (rd1 (k := 0) rfl rfl)) ?_
  refine at_q rfl rfl (by decide) (qt_mul rfl rfl rfl (by omega) (by omega)) ?_
  refine at_q rfl rfl (by decide) (qt_sub rfl rfl rfl (by omega) (by omega)) ?_
  refine at_q rfl rfl (by decide) (qt_assign rfl rfl) ?_
  refine at_end ?_
  refine at_cut [] (C := [(2, _), (4, _)]) ([.cel b1 140 (spC (spMeet s x)), .cel b2 140 (spC x), .cel b3 140 [.int .i64 0, .int .i64 0, .int .i64 0, .int .i64 0, .bool false, .bool false]]) ⟨rfl, rfl, trivial⟩ (fun L hC_cutif_t59 => ?_) ?_
  ·refine at_cutE [(59, .bool (upHigh (meetLow s x) x))] (C := [(2, _), (3, _), (4, _)])  ⟨rfl, rfl, rfl, trivial⟩ (fun L hC_cut_7 => ?_) ?_
   ·refine at_region ?_
    refine at_q rfl rfl (by decide) (qt_move rfl rfl) ?_
    refine at_q rfl rfl (by decide) (qt_gtr rfl rfl rfl) ?_
    refine at_q rfl rfl (by decide) (qt_move rfl rfl) ?_
    refine at_bsplit 51 rfl (fun g3 => ?_) (fun g3 => ?_)
    ·try simp only [za,zb,zc,zd,ze,zf,Bool.not_true,Bool.not_false,zg,zh,ne_eq,zi,zj] at g3
     refine at_off rfl rfl rfl rfl (by decide) rfl (by decide) ?_
     refine at_off rfl rfl rfl rfl (by decide) rfl (by decide) ?_
     refine at_off rfl rfl rfl rfl (by decide) rfl (by decide) ?_
     refine at_offu rfl rfl rfl rfl rfl (by decide) ?_
     refine at_offu rfl rfl rfl rfl rfl (by decide) ?_
     refine at_offu rfl rfl rfl rfl rfl (by decide) ?_
     refine at_off rfl rfl rfl rfl (by decide) rfl (by decide) ?_
     refine at_q rfl rfl (by decide) (qt_pickT rfl rfl rfl) ?_
     refine at_end ?_
     exact at_meet hC_cut_7 ⟨vb (by symm; simp [upHigh]; omega), rfl, rfl, rfl, trivial⟩ (fun _ h => h.upto ⟨rfl, rfl, rfl, trivial⟩)
    ·try simp only [za,zb,zc,zd,ze,zf,Bool.not_true,Bool.not_false,zg,zh,ne_eq,zi,zj] at g3
     refine at_on rfl rfl rfl rfl ?_
     refine op_q rfl (by decide) (qt_move rfl rfl) ?_
     refine at_on rfl rfl rfl rfl ?_
     refine op_q rfl (by decide) (qt_eql rfl rfl rfl) ?_
     refine at_on rfl rfl rfl rfl ?_
     refine op_q rfl (by decide) (qt_move rfl rfl) ?_
     refine at_bsplit 54 rfl (fun g4 => ?_) (fun g4 => ?_)
     ·try simp only [za,zb,zc,zd,ze,zf,Bool.not_true,Bool.not_false,zg,zh,ne_eq,zi,zj] at g4
      refine at_on rfl rfl rfl rfl ?_
      refine op_q rfl (by decide) (qt_fieldAddr rfl rfl tyf_spec_l13Span_5) ?_
      refine at_on rfl rfl rfl rfl ?_
      refine op_q rfl (by decide) (qt_load1 rfl rfl ty1_bool (rd1 (k := 1) rfl rfl)) ?_
      refine at_on rfl rfl rfl rfl ?_
      refine op_q rfl (by decide) (qt_not rfl rfl) ?_
      refine at_on rfl rfl rfl rfl ?_
      refine op_q rfl (by decide) (qt_pickT rfl rfl rfl) ?_
      refine at_q rfl rfl (by decide) (qt_pickF rfl rfl rfl) ?_
      refine at_end ?_
      exact at_meet hC_cut_7 ⟨vb (by simp [upHigh, g4]), rfl, rfl, rfl, trivial⟩ (fun _ h => h.upto ⟨rfl, rfl, rfl, trivial⟩)
     ·try simp only [za,zb,zc,zd,ze,zf,Bool.not_true,Bool.not_false,zg,zh,ne_eq,zi,zj] at g4
      refine at_off rfl rfl rfl rfl (by decide) rfl (by decide) ?_
      refine at_off rfl rfl rfl rfl (by decide) rfl (by decide) ?_
      refine at_off rfl rfl rfl rfl (by decide) rfl (by decide) ?_
      refine at_on rfl rfl rfl rfl ?_
      refine op_q rfl (by decide) (qt_pickF rfl rfl rfl) ?_
      refine at_q rfl rfl (by decide) (qt_pickF rfl rfl rfl) ?_
      refine at_end ?_
      exact at_meet hC_cut_7 ⟨vb (by symm; simp [upHigh]; omega), rfl, rfl, rfl, trivial⟩ (fun _ h => h.upto ⟨rfl, rfl, rfl, trivial⟩)
   ·refine at_envE (by simp only [ya,yb]; rfl) ?_
    refine at_cond rfl (fun c2 => ?_) (fun c2 => ?_)
    ·try simp only [za,zb,zc,zd,ze,zf,Bool.not_true,Bool.not_false,zg,zh,ne_eq,zi,zj] at c2
     refine at_seq ?_
     refine at_region ?_
     refine at_q rfl rfl (by decide) (qt_fieldAddr rfl rfl tyf_spec_l13Span_2) ?_
     refine at_q rfl rfl (by decide) (qt_load1 rfl rfl ty1_int64 (rd1 (k := 1) rfl rfl)) ?_
     refine at_q rfl rfl (by decide) (qt_fieldAddr rfl rfl tyf_spec_l13Span_2) ?_
     refine at_op rfl ?_
     refine op_store_6_2_1 (k := 0) rfl rfl rfl rfl (rfl) (by rfl) tyz_int64.szx rfl ?_
     refine at_rsE (by simp only [ya,yb,yc,yd,Value.cells,ye]; rfl) ?_
     refine at_end ?_
     refine at_seq ?_
     refine at_region ?_
     refine at_q rfl rfl (by decide) (qt_fieldAddr rfl rfl tyf_spec_l13Span_3) ?_
     refine at_q rfl rfl (by decide) (qt_load1 rfl rfl ty1_int64 (rd1 (k := 1) rfl rfl)) ?_
     refine at_q rfl rfl (by decide) (qt_fieldAddr rfl rfl tyf_spec_l13Span_3) ?_
     refine at_op rfl ?_
     refine op_store_6_3_1 (k := 0) rfl rfl rfl rfl (rfl) (by rfl) tyz_int64.szx rfl ?_
     refine at_rsE (by simp only [ya,yb,yc,yd,Value.cells,ye]; rfl) ?_
     refine at_end ?_
     refine at_region ?_
     refine at_q rfl rfl (by decide) (qt_fieldAddr rfl rfl tyf_spec_l13Span_5) ?_
     refine at_q rfl rfl (by decide) (qt_load1 rfl rfl ty1_bool (rd1 (k := 1) rfl rfl)) ?_
     refine at_q rfl rfl (by decide) (qt_fieldAddr rfl rfl tyf_spec_l13Span_5) ?_
     refine at_op rfl ?_
     refine op_store_6_5_1 (k := 0) rfl rfl rfl rfl (rfl) (by rfl) tyz_bool.szx rfl ?_
     refine at_rsE (by simp only [ya,yb,yc,yd,Value.cells,ye]; rfl) ?_
     refine at_end ?_
     exact at_meet hC_cutif_t59 ⟨rfl, rfl, trivial⟩ (fun _ h => h.upto ⟨by rw [spMeet, meetHigh, if_pos c2] <;> rfl, rfl, rfl, trivial⟩)
    ·try simp only [za,zb,zc,zd,ze,zf,Bool.not_true,Bool.not_false,zg,zh,ne_eq,zi,zj] at c2
     refine at_skip ?_
     refine norm_then ?_
     exact at_meet hC_cutif_t59 ⟨rfl, rfl, trivial⟩ (fun _ h => h.upto ⟨by rw [spMeet, meetHigh, c2] <;> rfl, rfl, rfl, trivial⟩)
  ·refine at_envE (by simp only [ya,yb]; rfl) ?_
   refine at_seq ?_
   refine at_region ?_
   refine at_q rfl rfl (by decide) (qt_loadS rfl rfl tys_spec_l13Span rfl (rdAll (k := 0) rfl)) ?_
   refine at_op rfl ?_
   refine op_storeAll' (k := 2) rfl rfl rfl rfl (rfl) (by rfl) tyz_spec_l13Span.szx rfl rfl rfl ?_
   refine at_rsE (by simp only [ya,yb,yc,yd,Value.cells,ye]; rfl) ?_
   refine at_end ?_
   refine at_retc ?_
   refine at_ret1 rfl (rvCelS (k := 2) rfl tys_spec_l13Span rfl rfl) ?_
   intro w' hs
   exact ⟨rfl, hs.fin⟩

theorem l13Inside_any (ax ay bx b_y px_ py_ : Int) (w : World) (ha : okB ax ay = true) (hb : okB bx b_y = true) (hp : okB px_ py_ = true) :
  Calls Tryz.prog 102 #[ptV ax ay, ptV bx b_y, ptV px_ py_] w fun e w' => e = .returned (.tuple #[spV (if (pixIn (2 * ax) (2 * (bx - ax)) (2 * px_ - 1) && pixIn (2 * ay) (2 * (b_y - ay)) (2 * py_ - 1)) = true then spMeet (spMeet sp0 (pixX (2 * ax) (2 * (bx - ax)) (2 * px_ - 1))) (pixX (2 * ay) (2 * (b_y - ay)) (2 * py_ - 1)) else sp0),
   .bool (insB (2 * ax) (2 * (bx - ax)) (2 * px_ - 1) (2 * ay) (2 * (b_y - ay)) (2 * py_ - 1))]) ∧ Over w w' := by
 simp [okB, inB] at ha hb hp
 have hx := pixX_bd (2 * ax) (2 * (bx - ax)) (2 * px_ - 1) (by omega) (by omega) (by omega) (by omega) (by omega) (by omega)
 have hy := pixX_bd (2 * ay) (2 * (b_y - ay)) (2 * py_ - 1) (by omega) (by omega) (by omega) (by omega) (by omega) (by omega)
 have h1 := meetHigh_bd (meetLow_bd sp0_bd hx) hx
 obtain ⟨sx, ex⟩ : ∃ s, pixX (2 * ax) (2 * (bx - ax)) (2 * px_ - 1) = s := ⟨_, rfl⟩
 obtain ⟨sy, ey⟩ : ∃ s, pixX (2 * ay) (2 * (b_y - ay)) (2 * py_ - 1) = s := ⟨_, rfl⟩
 obtain ⟨ix, jx⟩ : ∃ s, pixIn (2 * ax) (2 * (bx - ax)) (2 * px_ - 1) = s := ⟨_, rfl⟩
 obtain ⟨iy, jy⟩ : ∃ s, pixIn (2 * ay) (2 * (b_y - ay)) (2 * py_ - 1) = s := ⟨_, rfl⟩
 unfold insB
 rw [ex] at hx h1
 rw [ey] at hy
 rw [ex, ey, jx, jy]
 change bdP (spMeet sp0 sx) at h1
 obtain ⟨s2, e2⟩ : ∃ s, spMeet (spMeet sp0 sx) sy = s := ⟨_, rfl⟩
 rw [e2]
 have h2 : bdP (spMeet (spMeet sp0 sx) sy) := meetHigh_bd (meetLow_bd h1 hy) hy
 rw [e2] at h2
 obtain ⟨m1, m2⟩ := bd_mul h2.low h2.high
 have hA : ∀ w, Calls Tryz.prog 113 #[.int .i64 (2 * ax), .int .i64 (2 * (bx - ax)), .int .i64 (2 * px_ - 1), .int .i64 (2 * px_ + 1)] w fun e w' => e = .returned (.tuple #[spV sx, .bool ix]) ∧ Over w w' := fun w => ex ▸ jx ▸ l13Clip_any _ _ _ _ w (by omega) (by omega) (by omega) (by omega) (by omega) (by omega) (by omega)
 have hB : ∀ w, Calls Tryz.prog 113 #[.int .i64 (2 * ay), .int .i64 (2 * (b_y - ay)), .int .i64 (2 * py_ - 1), .int .i64 (2 * py_ + 1)] w fun e w' => e = .returned (.tuple #[spV sy, .bool iy]) ∧ Over w w' := fun w => ey ▸ jy ▸ l13Clip_any _ _ _ _ w (by omega) (by omega) (by omega) (by omega) (by omega) (by omega) (by omega)
 have hC : ∀ w, Calls Tryz.prog 114 #[spV (spMeet sp0 sx), spV sy] w fun e w' => e = .returned (spV s2) ∧ Over w w' := fun w => e2 ▸ l13Meet_any _ _ w h1 hy
 refine walk_from (m := 95) (Tryz.func102) rfl rfl (Nat.le_of_ble_eq_true rfl) ?_
 refine at_seq ?_
 refine at_region ?_
 refine at_op rfl ?_
 refine op_box rfl rfl (rfl) rfl (by decide) (fun b1 => ?_)
 refine at_rsE (by simp only [ya,yb,yc,yd,Value.cells,ye]; rfl) ?_
 refine at_op rfl ?_
 refine op_box rfl rfl (rfl) rfl (by decide) (fun b2 => ?_)
 refine at_rsE (by simp only [ya,yb,yc,yd,Value.cells,ye]; rfl) ?_
 refine at_op rfl ?_
 refine op_box rfl rfl (rfl) rfl (by decide) (fun b3 => ?_)
 refine at_rsE (by simp only [ya,yb,yc,yd,Value.cells,ye]; rfl) ?_
 refine at_op rfl ?_
 refine op_alloc rfl tyz_spec_l13Span rfl (by decide) (fun b4 => ?_)
 refine at_rsE (by simp only [ya,yb,yc,yd,Value.cells,ye]; rfl) ?_
 refine at_q rfl rfl (by decide) (qt_assign rfl rfl) ?_
 refine at_end ?_
 refine at_seq ?_
 refine at_region ?_
 refine at_q rfl rfl (by decide) (qt_build rfl rfl (bld_spec_l13Span_0_1_2_3_4_5 rfl rfl rfl rfl rfl rfl)) ?_
 refine at_op rfl ?_
 refine op_alloc rfl tyz_spec_l13Span rfl (by decide) (fun b5 => ?_)
 refine at_rsE (by simp only [ya,yb,yc,yd,Value.cells,ye]; rfl) ?_
 refine at_op rfl ?_
 refine op_storeAll' (k := 4) rfl rfl rfl rfl (rfl) (by rfl) tyz_spec_l13Span.szx rfl rfl rfl ?_
 refine at_rsE (by simp only [ya,yb,yc,yd,Value.cells,ye]; rfl) ?_
 refine at_end ?_
 refine at_seq ?_
 refine at_region ?_
 refine at_q rfl rfl (by decide) (qt_fieldAddr rfl rfl tyf_impl_Pt_0) ?_
 refine at_q rfl rfl (by decide) (qt_load1 rfl rfl ty1_int64 (rd1 (k := 0) rfl rfl)) ?_
 refine at_q rfl rfl (by decide) (qt_mul rfl rfl rfl (by omega) (by omega)) ?_
 refine at_q rfl rfl (by decide) (qt_fieldAddr rfl rfl tyf_impl_Pt_0) ?_
 refine at_q rfl rfl (by decide) (qt_load1 rfl rfl ty1_int64 (rd1 (k := 1) rfl rfl)) ?_
 refine at_q rfl rfl (by decide) (qt_fieldAddr rfl rfl tyf_impl_Pt_0) ?_
 refine at_q rfl rfl (by decide) (qt_load1 rfl rfl ty1_int64 (rd1 (k := 0) rfl rfl)) ?_
 refine at_q rfl rfl (by decide) (qt_sub rfl rfl rfl (by omega) (by omega)) ?_
 refine at_q rfl rfl (by decide) (qt_mul rfl rfl rfl (by omega) (by omega)) ?_
 refine at_q rfl rfl (by decide) (qt_fieldAddr rfl rfl tyf_impl_Pt_0) ?_
 refine at_q rfl rfl (by decide) (qt_load1 rfl rfl ty1_int64 (rd1 (k := 2) rfl rfl)) ?_
 refine at_q rfl rfl (by decide) (qt_mul rfl rfl rfl (by omega) (by omega)) ?_
 refine at_q rfl rfl (by decide) (qt_sub rfl rfl rfl (by omega) (by omega)) ?_
 refine at_q rfl rfl (by decide) (qt_fieldAddr rfl rfl tyf_impl_Pt_0) ?_
 refine at_q rfl rfl (by decide) (qt_load1 rfl rfl ty1_int64 (rd1 (k := 2) rfl rfl)) ?_
 refine at_q rfl rfl (by decide) (qt_mul rfl rfl rfl (by omega) (by omega)) ?_
 refine at_q rfl rfl (by decide) (qt_add rfl rfl rfl (by omega) (by omega)) ?_
 refine at_q rfl rfl (by decide) (qt_call ok_spec_l13Clip rfl rfl (fun w h => hA w)) ?_
 refine at_q rfl rfl (by decide) (qt_move rfl rfl) ?_
 refine at_q rfl rfl (by decide) (qt_extract rfl rfl rfl) ?_
 refine at_q rfl rfl (by decide) (qt_extract rfl rfl rfl) ?_
 refine at_op rfl ?_
 refine op_alloc rfl tyz_spec_l13Span rfl (by decide) (fun b6 => ?_)
 refine at_rsE (by simp only [ya,yb,yc,yd,Value.cells,ye]; rfl) ?_
 refine at_op rfl ?_
 refine op_storeAll' (k := 5) rfl rfl rfl rfl (rfl) (by rfl) tyz_spec_l13Span.szx rfl rfl rfl ?_
 refine at_rsE (by simp only [ya,yb,yc,yd,Value.cells,ye]; rfl) ?_
 refine at_q rfl rfl (by decide) (qt_assign rfl rfl) ?_
 refine at_end ?_
 refine at_seq ?_
 refine at_region ?_
 refine at_q rfl rfl (by decide) (qt_fieldAddr rfl rfl tyf_impl_Pt_1) ?_
 refine at_q rfl rfl (by decide) (qt_load1 rfl rfl ty1_int64 (rd1 (k := 0) rfl rfl)) ?_
 refine at_q rfl rfl (by decide) (qt_mul rfl rfl rfl (by omega) (by omega)) ?_
 refine at_q rfl rfl (by decide) (qt_fieldAddr rfl rfl tyf_impl_Pt_1) ?_
 refine at_q rfl rfl (by decide) (qt_load1 rfl rfl ty1_int64 (rd1 (k := 1) rfl rfl)) ?_
 refine at_q rfl rfl (by decide) (qt_fieldAddr rfl rfl tyf_impl_Pt_1) ?_
 refine at_q rfl rfl (by decide) (qt_load1 rfl rfl ty1_int64 (rd1 (k := 0) rfl rfl)) ?_
 refine at_q rfl rfl (by decide) (qt_sub rfl rfl rfl (by omega) (by omega)) ?_
 refine at_q rfl rfl (by decide) (qt_mul rfl rfl rfl (by omega) (by omega)) ?_
 refine at_q rfl rfl (by decide) (qt_fieldAddr rfl rfl tyf_impl_Pt_1) ?_
 refine at_q rfl rfl (by decide) (qt_load1 rfl rfl ty1_int64 (rd1 (k := 2) rfl rfl)) ?_
 refine at_q rfl rfl (by decide) (qt_mul rfl rfl rfl (by omega) (by omega)) ?_
 refine at_q rfl rfl (by decide) (qt_sub rfl rfl rfl (by omega) (by omega)) ?_
 refine at_q rfl rfl (by decide) (qt_fieldAddr rfl rfl tyf_impl_Pt_1) ?_
 refine at_q rfl rfl (by decide) (qt_load1 rfl rfl ty1_int64 (rd1 (k := 2) rfl rfl)) ?_
 refine at_q rfl rfl (by decide) (qt_mul rfl rfl rfl (by omega) (by omega)) ?_
 refine at_q rfl rfl (by decide) (qt_add rfl rfl rfl (by omega) (by omega)) ?_
 refine at_q rfl rfl (by decide) (qt_call ok_spec_l13Clip rfl rfl (fun w h => hB w)) ?_
 refine at_q rfl rfl (by decide) (qt_move rfl rfl) ?_
 refine at_q rfl rfl (by decide) (qt_extract rfl rfl rfl) ?_
 refine at_q rfl rfl (by decide) (qt_extract rfl rfl rfl) ?_
 refine at_op rfl ?_
 refine op_alloc rfl tyz_spec_l13Span rfl (by decide) (fun b7 => ?_)
 refine at_rsE (by simp only [ya,yb,yc,yd,Value.cells,ye]; rfl) ?_
 refine at_op rfl ?_
 refine op_storeAll' (k := 6) rfl rfl rfl rfl (rfl) (by rfl) tyz_spec_l13Span.szx rfl rfl rfl ?_
 refine at_rsE (by simp only [ya,yb,yc,yd,Value.cells,ye]; rfl) ?_
 refine at_q rfl rfl (by decide) (qt_assign rfl rfl) ?_
 refine at_end ?_
 refine at_seq ?_
 refine at_cutE [(62, .bool (!(ix && iy)))] (C := [(6, _), (7, _), (8, _), (9, _), (11, _)])  ⟨rfl, rfl, rfl, rfl, rfl, trivial⟩ (fun L hC_cut_4 => ?_) ?_
 ·refine at_region ?_
  refine at_q rfl rfl (by decide) (qt_move rfl rfl) ?_
  refine at_q rfl rfl (by decide) (qt_not rfl rfl) ?_
  refine at_q rfl rfl (by decide) (qt_move rfl rfl) ?_
  refine at_bsplit 59 rfl (fun g1 => ?_) (fun g1 => ?_)
  ·try simp only [za,zb,zc,zd,ze,zf,Bool.not_true,Bool.not_false,zg,zh,ne_eq,zi,zj] at g1
   refine at_off rfl rfl rfl rfl (by decide) rfl (by decide) ?_
   refine at_off rfl rfl rfl rfl (by decide) rfl (by decide) ?_
   refine at_q rfl rfl (by decide) (qt_pickT rfl rfl rfl) ?_
   refine at_end ?_
   exact at_meet hC_cut_4 ⟨vb (by simp [g1]), rfl, rfl, rfl, rfl, rfl, trivial⟩ (fun _ h => h.upto ⟨rfl, rfl, rfl, rfl, rfl, rfl, rfl, trivial⟩)
  ·try simp only [za,zb,zc,zd,ze,zf,Bool.not_true,Bool.not_false,zg,zh,ne_eq,zi,zj] at g1
   refine at_on rfl rfl rfl rfl ?_
   refine op_q rfl (by decide) (qt_move rfl rfl) ?_
   refine at_on rfl rfl rfl rfl ?_
   refine op_q rfl (by decide) (qt_not rfl rfl) ?_
   refine at_q rfl rfl (by decide) (qt_pickF rfl rfl rfl) ?_
   refine at_end ?_
   exact at_meet hC_cut_4 ⟨vb (by simp [g1]), rfl, rfl, rfl, rfl, rfl, trivial⟩ (fun _ h => h.upto ⟨rfl, rfl, rfl, rfl, rfl, rfl, rfl, trivial⟩)
 ·refine at_envE (by simp only [ya,yb]; rfl) ?_
  refine at_cond rfl (fun c1 => ?_) (fun c1 => ?_)
  ·try simp only [za,zb,zc,zd,ze,zf,Bool.not_true,Bool.not_false,zg,zh,ne_eq,zi,zj] at c1
   refine at_seq ?_
   refine at_region ?_
   refine at_q rfl rfl (by decide) (qt_loadS rfl rfl tys_spec_l13Span rfl (rdAll (k := 4) rfl)) ?_
   refine at_op rfl ?_
   refine op_storeAll' (k := 3) rfl rfl rfl rfl (rfl) (by rfl) tyz_spec_l13Span.szx rfl rfl rfl ?_
   refine at_rsE (by simp only [ya,yb,yc,yd,Value.cells,ye]; rfl) ?_
   refine at_q rfl rfl (by decide) (qt_assign rfl rfl) ?_
   refine at_end ?_
   refine at_retc ?_
   refine then_ret ?_
   refine at_ret2 rfl (rvCelS (k := 3) rfl tys_spec_l13Span rfl rfl) (.tmp rfl) ?_
   intro w' hs
   have q : ((ix && iy) = true) = False := (by simp at c1; simp; exact c1)
   exact ⟨by simp only [q, if_false]; simp at c1; cases ix <;> simp_all [sp0], hs.fin⟩
  ·try simp only [za,zb,zc,zd,ze,zf,Bool.not_true,Bool.not_false,zg,zh,ne_eq,zi,zj] at c1
   have q : (ix && iy) = true := (by simpa using c1)
   refine at_skip ?_
   refine norm_then ?_
   refine at_seq ?_
   refine dg_start mixed rfl ?_
   refine dg_phase 5 ?_
   refine dg_q (i := 0) rfl (by kernel_rfl) (by kernel_rfl) (by kernel_rfl) [] (by kernel_rfl) (fun _ _ _ h => h) rfl rfl (by decide) (fun _ h => h.upto ⟨rfl, rfl, rfl, rfl, rfl, rfl, rfl, trivial⟩) (qt_loadS rfl rfl tys_spec_l13Span rfl (rdAll (k := 4) rfl)) ?_
   refine dg_q (i := 1) rfl (by kernel_rfl) (by kernel_rfl) (by kernel_rfl) [] (by kernel_rfl) (fun _ _ _ h => h) rfl rfl (by decide) (fun _ h => h.upto ⟨rfl, rfl, rfl, rfl, rfl, rfl, rfl, trivial⟩) (qt_loadS rfl rfl tys_spec_l13Span rfl (rdAll (k := 5) rfl)) ?_
   refine dg_q (i := 2) rfl (by kernel_rfl) (by kernel_rfl) (by kernel_rfl) [] (by kernel_rfl) (fun _ _ _ h => h) rfl rfl (by decide) (fun _ h => h.upto ⟨rfl, rfl, rfl, rfl, rfl, rfl, rfl, trivial⟩) (qt_call ok_spec_l13Meet rfl rfl (fun w h => l13Meet_any sp0 sx w sp0_bd hx)) ?_
   refine dg_q (i := 3) rfl (by kernel_rfl) (by kernel_rfl) (by kernel_rfl) [] (by kernel_rfl) (fun _ _ _ h => h) rfl rfl (by decide) (fun _ h => h.upto ⟨rfl, rfl, rfl, rfl, rfl, rfl, rfl, trivial⟩) (qt_loadS rfl rfl tys_spec_l13Span rfl (rdAll (k := 6) rfl)) ?_
   refine dg_q (i := 4) rfl (by kernel_rfl) (by kernel_rfl) (by kernel_rfl) [] (by kernel_rfl) (fun _ _ _ h => h) rfl rfl (by decide) (fun _ h => h.upto ⟨rfl, rfl, rfl, rfl, rfl, rfl, rfl, trivial⟩) (qt_call ok_spec_l13Meet rfl rfl (fun w h => hC w)) ?_
   refine dg_bar rfl (by kernel_rfl) rfl ?_
   refine op_storeAll' (k := 4) rfl rfl rfl rfl (rfl) (by rfl) tyz_spec_l13Span.szx rfl rfl rfl ?_
   refine at_rsE (by simp only [ya,yb,yc,yd,Value.cells,ye]; rfl) ?_
   refine dg_end (by kernel_rfl) ?_
   refine norm_then ?_
   refine at_seq ?_
   refine at_region ?_
   refine at_q rfl rfl (by decide) (qt_fieldAddr rfl rfl tyf_spec_l13Span_0) ?_
   refine at_q rfl rfl (by decide) (qt_load1 rfl rfl ty1_int64 (rd1 (k := 4) rfl rfl)) ?_
   refine at_q rfl rfl (by decide) (qt_fieldAddr rfl rfl tyf_spec_l13Span_3) ?_
   refine at_q rfl rfl (by decide) (qt_load1 rfl rfl ty1_int64 (rd1 (k := 4) rfl rfl)) ?_
   refine at_q rfl rfl (by decide) (qt_mul rfl rfl rfl (by omega) (by omega)) ?_
   refine at_q rfl rfl (by decide) (qt_fieldAddr rfl rfl tyf_spec_l13Span_2) ?_
   refine at_q rfl rfl (by decide) (qt_load1 rfl rfl ty1_int64 (rd1 (k := 4) rfl rfl)) ?_
   refine at_q rfl rfl (by decide) (qt_fieldAddr rfl rfl tyf_spec_l13Span_1) ?_
   refine at_q rfl rfl (by decide) (qt_load1 rfl rfl ty1_int64 (rd1 (k := 4) rfl rfl)) ?_
   refine at_q rfl rfl (by decide) (qt_mul rfl rfl rfl (by omega) (by omega)) ?_
   refine at_q rfl rfl (by decide) (qt_sub rfl rfl rfl (by omega) (by omega)) ?_
   refine at_q rfl rfl (by decide) (qt_assign rfl rfl) ?_
   refine at_end ?_
   refine at_seq ?_
   refine dg_start mixed rfl ?_
   refine dg_phaseW 17 [3] ?_
   refine dg_q (i := 0) rfl (by kernel_rfl) (by kernel_rfl) (by kernel_rfl) [] (by kernel_rfl) (fun _ _ _ h => h) rfl rfl (by decide) (fun _ h => (h.wk [3]).upto ⟨rfl, rfl, rfl, rfl, rfl, rfl, rfl, trivial⟩) (qt_loadS rfl rfl tys_spec_l13Span rfl (rdAll (k := 4) rfl)) ?_
   refine dg_q (i := 1) rfl (by kernel_rfl) (by kernel_rfl) (by kernel_rfl) [] (by kernel_rfl) (fun _ _ _ h => h) rfl rfl (by decide) (fun _ h => (h.wk [3]).upto ⟨rfl, rfl, rfl, rfl, rfl, rfl, rfl, trivial⟩) (qt_move rfl rfl) ?_
   refine dg_q (i := 2) rfl (by kernel_rfl) (by kernel_rfl) (by kernel_rfl) [] (by kernel_rfl) (fun _ _ _ h => h) rfl rfl (by decide) (fun _ h => (h.wk [3]).upto ⟨rfl, rfl, rfl, rfl, rfl, rfl, rfl, trivial⟩) (qt_lss rfl rfl rfl) ?_
   refine dg_q (i := 3) rfl (by kernel_rfl) (by kernel_rfl) (by kernel_rfl) [] (by kernel_rfl) (fun _ _ _ h => h) rfl rfl (by decide) (fun _ h => (h.wk [3]).upto ⟨rfl, rfl, rfl, rfl, rfl, rfl, rfl, trivial⟩) (qt_move rfl rfl) ?_
   refine at_bsplit 83 rfl (fun g2 => ?_) (fun g2 => ?_)
   ·try simp only [za,zb,zc,zd,ze,zf,Bool.not_true,Bool.not_false,zg,zh,ne_eq,zi,zj] at g2
    refine dg_off (i := 4) rfl (by kernel_rfl) (by kernel_rfl) (by kernel_rfl) [] (by kernel_rfl) (fun _ _ _ h => h) rfl rfl rfl rfl (by decide) rfl (by decide) (fun _ h => (h.wk [3]).upto ⟨rfl, rfl, rfl, rfl, rfl, rfl, rfl, trivial⟩) ?_
    refine dg_off (i := 5) rfl (by kernel_rfl) (by kernel_rfl) (by kernel_rfl) [] (by kernel_rfl) (fun _ _ _ h => h) rfl rfl rfl rfl (by decide) rfl (by decide) (fun _ h => (h.wk [3]).upto ⟨rfl, rfl, rfl, rfl, rfl, rfl, rfl, trivial⟩) ?_
    refine dg_off (i := 6) rfl (by kernel_rfl) (by kernel_rfl) (by kernel_rfl) [] (by kernel_rfl) (fun _ _ _ h => h) rfl rfl rfl rfl (by decide) rfl (by decide) (fun _ h => (h.wk [3]).upto ⟨rfl, rfl, rfl, rfl, rfl, rfl, rfl, trivial⟩) ?_
    refine dg_offu (i := 7) rfl (by kernel_rfl) (by kernel_rfl) (by kernel_rfl) [] (by kernel_rfl) (fun _ _ _ h => h) rfl rfl rfl rfl rfl (by decide) (fun _ h => (h.wk [3]).upto ⟨rfl, rfl, rfl, rfl, rfl, rfl, rfl, trivial⟩) ?_
    refine dg_offu (i := 8) rfl (by kernel_rfl) (by kernel_rfl) (by kernel_rfl) [] (by kernel_rfl) (fun _ _ _ h => h) rfl rfl rfl rfl rfl (by decide) (fun _ h => (h.wk [3]).upto ⟨rfl, rfl, rfl, rfl, rfl, rfl, rfl, trivial⟩) ?_
    refine dg_off (i := 9) rfl (by kernel_rfl) (by kernel_rfl) (by kernel_rfl) [] (by kernel_rfl) (fun _ _ _ h => h) rfl rfl rfl rfl (by decide) rfl (by decide) (fun _ h => (h.wk [3]).upto ⟨rfl, rfl, rfl, rfl, rfl, rfl, rfl, trivial⟩) ?_
    refine dg_off (i := 10) rfl (by kernel_rfl) (by kernel_rfl) (by kernel_rfl) [] (by kernel_rfl) (fun _ _ _ h => h) rfl rfl rfl rfl (by decide) rfl (by decide) (fun _ h => (h.wk [3]).upto ⟨rfl, rfl, rfl, rfl, rfl, rfl, rfl, trivial⟩) ?_
    refine dg_offu (i := 11) rfl (by kernel_rfl) (by kernel_rfl) (by kernel_rfl) [] (by kernel_rfl) (fun _ _ _ h => h) rfl rfl rfl rfl rfl (by decide) (fun _ h => (h.wk [3]).upto ⟨rfl, rfl, rfl, rfl, rfl, rfl, rfl, trivial⟩) ?_
    refine dg_offu (i := 12) rfl (by kernel_rfl) (by kernel_rfl) (by kernel_rfl) [] (by kernel_rfl) (fun _ _ _ h => h) rfl rfl rfl rfl rfl (by decide) (fun _ h => (h.wk [3]).upto ⟨rfl, rfl, rfl, rfl, rfl, rfl, rfl, trivial⟩) ?_
    refine dg_off (i := 13) rfl (by kernel_rfl) (by kernel_rfl) (by kernel_rfl) [] (by kernel_rfl) (fun _ _ _ h => h) rfl rfl rfl rfl (by decide) rfl (by decide) (fun _ h => (h.wk [3]).upto ⟨rfl, rfl, rfl, rfl, rfl, rfl, rfl, trivial⟩) ?_
    refine dg_q (i := 14) rfl (by kernel_rfl) (by kernel_rfl) (by kernel_rfl) [] (by kernel_rfl) (fun _ _ _ h => h) rfl rfl (by decide) (fun _ h => (h.wk [3]).upto ⟨rfl, rfl, rfl, rfl, rfl, rfl, rfl, trivial⟩) (qt_pickT rfl rfl rfl) ?_
    refine dg_one (i := 15) rfl (by decide) (by kernel_rfl) rfl ?_
    refine op_storeAll' (k := 3) rfl rfl rfl rfl (rfl) (by rfl) tyz_spec_l13Span.szx rfl rfl rfl ?_
    refine at_rsE (by simp only [ya,yb,yc,yd,Value.cells,ye]; rfl) ?_
    refine dr_keep (fun _ h => (h.wk [3]).upto ⟨rfl, rfl, rfl, rfl, rfl, rfl, rfl, trivial⟩) ?_
    refine dg_q (i := 16) rfl (by kernel_rfl) (by kernel_rfl) (by kernel_rfl) [] (by kernel_rfl) (fun _ _ _ h => h) rfl rfl (by decide) (fun _ h => (h.wk [3]).upto ⟨rfl, rfl, rfl, rfl, rfl, rfl, rfl, trivial⟩) (qt_assign rfl rfl) ?_
    refine dg_done (by kernel_rfl) ?_
    refine norm_then ?_
    refine at_retc ?_
    refine at_ret2 rfl (rvCelS (k := 3) rfl tys_spec_l13Span rfl rfl) (.tmp rfl) ?_
    intro w' hs
    exact ⟨by rw [if_pos q, q, Bool.true_and, show nonE s2 = true from (by simp [nonE]; omega)], hs.fin⟩
   ·try simp only [za,zb,zc,zd,ze,zf,Bool.not_true,Bool.not_false,zg,zh,ne_eq,zi,zj] at g2
    refine dg_qg (i := 4) rfl (by kernel_rfl) (by kernel_rfl) (by kernel_rfl) [] (by kernel_rfl) (fun _ _ _ h => h) rfl rfl rfl rfl rfl (by decide) (fun _ h => (h.wk [3]).upto ⟨rfl, rfl, rfl, rfl, rfl, rfl, rfl, trivial⟩) (qt_move rfl rfl) ?_
    refine dg_qg (i := 5) rfl (by kernel_rfl) (by kernel_rfl) (by kernel_rfl) [] (by kernel_rfl) (fun _ _ _ h => h) rfl rfl rfl rfl rfl (by decide) (fun _ h => (h.wk [3]).upto ⟨rfl, rfl, rfl, rfl, rfl, rfl, rfl, trivial⟩) (qt_eql rfl rfl rfl) ?_
    refine dg_qg (i := 6) rfl (by kernel_rfl) (by kernel_rfl) (by kernel_rfl) [] (by kernel_rfl) (fun _ _ _ h => h) rfl rfl rfl rfl rfl (by decide) (fun _ h => (h.wk [3]).upto ⟨rfl, rfl, rfl, rfl, rfl, rfl, rfl, trivial⟩) (qt_move rfl rfl) ?_
    refine at_bsplit 86 rfl (fun g3 => ?_) (fun g3 => ?_)
    ·try simp only [za,zb,zc,zd,ze,zf,Bool.not_true,Bool.not_false,zg,zh,ne_eq,zi,zj] at g3
     refine dg_qg (i := 7) rfl (by kernel_rfl) (by kernel_rfl) (by kernel_rfl) [] (by kernel_rfl) (fun _ _ _ h => h) rfl rfl rfl rfl rfl (by decide) (fun _ h => (h.wk [3]).upto ⟨rfl, rfl, rfl, rfl, rfl, rfl, rfl, trivial⟩) (qt_fieldAddr rfl rfl tyf_spec_l13Span_4) ?_
     refine dg_qg (i := 8) rfl (by kernel_rfl) (by kernel_rfl) (by kernel_rfl) [] (by kernel_rfl) (fun _ _ _ h => h) rfl rfl rfl rfl rfl (by decide) (fun _ h => (h.wk [3]).upto ⟨rfl, rfl, rfl, rfl, rfl, rfl, rfl, trivial⟩) (qt_load1 rfl rfl ty1_bool (rd1 (k := 4) rfl rfl)) ?_
     refine dg_qg (i := 9) rfl (by kernel_rfl) (by kernel_rfl) (by kernel_rfl) [] (by kernel_rfl) (fun _ _ _ h => h) rfl rfl rfl rfl rfl (by decide) (fun _ h => (h.wk [3]).upto ⟨rfl, rfl, rfl, rfl, rfl, rfl, rfl, trivial⟩) (qt_pickT rfl rfl rfl) ?_
     refine dg_qg (i := 10) rfl (by kernel_rfl) (by kernel_rfl) (by kernel_rfl) [] (by kernel_rfl) (fun _ _ _ h => h) rfl rfl rfl rfl rfl (by decide) (fun _ h => (h.wk [3]).upto ⟨rfl, rfl, rfl, rfl, rfl, rfl, rfl, trivial⟩) (qt_move rfl rfl) ?_
     refine at_bsplit 90 rfl (fun g4 => ?_) (fun g4 => ?_)
     ·try simp only [za,zb,zc,zd,ze,zf,Bool.not_true,Bool.not_false,zg,zh,ne_eq,zi,zj] at g4
      refine dg_qg (i := 11) rfl (by kernel_rfl) (by kernel_rfl) (by kernel_rfl) [] (by kernel_rfl) (fun _ _ _ h => h) rfl rfl rfl rfl rfl (by decide) (fun _ h => (h.wk [3]).upto ⟨rfl, rfl, rfl, rfl, rfl, rfl, rfl, trivial⟩) (qt_fieldAddr rfl rfl tyf_spec_l13Span_5) ?_
      refine dg_qg (i := 12) rfl (by kernel_rfl) (by kernel_rfl) (by kernel_rfl) [] (by kernel_rfl) (fun _ _ _ h => h) rfl rfl rfl rfl rfl (by decide) (fun _ h => (h.wk [3]).upto ⟨rfl, rfl, rfl, rfl, rfl, rfl, rfl, trivial⟩) (qt_load1 rfl rfl ty1_bool (rd1 (k := 4) rfl rfl)) ?_
      refine dg_qg (i := 13) rfl (by kernel_rfl) (by kernel_rfl) (by kernel_rfl) [] (by kernel_rfl) (fun _ _ _ h => h) rfl rfl rfl rfl rfl (by decide) (fun _ h => (h.wk [3]).upto ⟨rfl, rfl, rfl, rfl, rfl, rfl, rfl, trivial⟩) (qt_pickT rfl rfl rfl) ?_
      refine dg_q (i := 14) rfl (by kernel_rfl) (by kernel_rfl) (by kernel_rfl) [] (by kernel_rfl) (fun _ _ _ h => h) rfl rfl (by decide) (fun _ h => (h.wk [3]).upto ⟨rfl, rfl, rfl, rfl, rfl, rfl, rfl, trivial⟩) (qt_pickF rfl rfl rfl) ?_
      refine dg_one (i := 15) rfl (by decide) (by kernel_rfl) rfl ?_
      refine op_storeAll' (k := 3) rfl rfl rfl rfl (rfl) (by rfl) tyz_spec_l13Span.szx rfl rfl rfl ?_
      refine at_rsE (by simp only [ya,yb,yc,yd,Value.cells,ye]; rfl) ?_
      refine dr_keep (fun _ h => (h.wk [3]).upto ⟨rfl, rfl, rfl, rfl, rfl, rfl, rfl, trivial⟩) ?_
      refine dg_q (i := 16) rfl (by kernel_rfl) (by kernel_rfl) (by kernel_rfl) [] (by kernel_rfl) (fun _ _ _ h => h) rfl rfl (by decide) (fun _ h => (h.wk [3]).upto ⟨rfl, rfl, rfl, rfl, rfl, rfl, rfl, trivial⟩) (qt_assign rfl rfl) ?_
      refine dg_done (by kernel_rfl) ?_
      refine norm_then ?_
      refine at_retc ?_
      refine at_ret2 rfl (rvCelS (k := 3) rfl tys_spec_l13Span rfl rfl) (.tmp rfl) ?_
      intro w' hs
      exact ⟨by rw [if_pos q, q, Bool.true_and, show nonE s2 = s2.hc from (by simp [nonE, *])], hs.fin⟩
     ·try simp only [za,zb,zc,zd,ze,zf,Bool.not_true,Bool.not_false,zg,zh,ne_eq,zi,zj] at g4
      refine dg_off (i := 11) rfl (by kernel_rfl) (by kernel_rfl) (by kernel_rfl) [] (by kernel_rfl) (fun _ _ _ h => h) rfl rfl rfl rfl (by decide) rfl (by decide) (fun _ h => (h.wk [3]).upto ⟨rfl, rfl, rfl, rfl, rfl, rfl, rfl, trivial⟩) ?_
      refine dg_off (i := 12) rfl (by kernel_rfl) (by kernel_rfl) (by kernel_rfl) [] (by kernel_rfl) (fun _ _ _ h => h) rfl rfl rfl rfl (by decide) rfl (by decide) (fun _ h => (h.wk [3]).upto ⟨rfl, rfl, rfl, rfl, rfl, rfl, rfl, trivial⟩) ?_
      refine dg_qg (i := 13) rfl (by kernel_rfl) (by kernel_rfl) (by kernel_rfl) [] (by kernel_rfl) (fun _ _ _ h => h) rfl rfl rfl rfl rfl (by decide) (fun _ h => (h.wk [3]).upto ⟨rfl, rfl, rfl, rfl, rfl, rfl, rfl, trivial⟩) (qt_pickF rfl rfl rfl) ?_
      refine dg_q (i := 14) rfl (by kernel_rfl) (by kernel_rfl) (by kernel_rfl) [] (by kernel_rfl) (fun _ _ _ h => h) rfl rfl (by decide) (fun _ h => (h.wk [3]).upto ⟨rfl, rfl, rfl, rfl, rfl, rfl, rfl, trivial⟩) (qt_pickF rfl rfl rfl) ?_
      refine dg_one (i := 15) rfl (by decide) (by kernel_rfl) rfl ?_
      refine op_storeAll' (k := 3) rfl rfl rfl rfl (rfl) (by rfl) tyz_spec_l13Span.szx rfl rfl rfl ?_
      refine at_rsE (by simp only [ya,yb,yc,yd,Value.cells,ye]; rfl) ?_
      refine dr_keep (fun _ h => (h.wk [3]).upto ⟨rfl, rfl, rfl, rfl, rfl, rfl, rfl, trivial⟩) ?_
      refine dg_q (i := 16) rfl (by kernel_rfl) (by kernel_rfl) (by kernel_rfl) [] (by kernel_rfl) (fun _ _ _ h => h) rfl rfl (by decide) (fun _ h => (h.wk [3]).upto ⟨rfl, rfl, rfl, rfl, rfl, rfl, rfl, trivial⟩) (qt_assign rfl rfl) ?_
      refine dg_done (by kernel_rfl) ?_
      refine norm_then ?_
      refine at_retc ?_
      refine at_ret2 rfl (rvCelS (k := 3) rfl tys_spec_l13Span rfl rfl) (.tmp rfl) ?_
      intro w' hs
      exact ⟨by rw [if_pos q, q, Bool.true_and, show nonE s2 = false from (by simp [nonE, *])], hs.fin⟩
    ·try simp only [za,zb,zc,zd,ze,zf,Bool.not_true,Bool.not_false,zg,zh,ne_eq,zi,zj] at g3
     refine dg_off (i := 7) rfl (by kernel_rfl) (by kernel_rfl) (by kernel_rfl) [] (by kernel_rfl) (fun _ _ _ h => h) rfl rfl rfl rfl (by decide) rfl (by decide) (fun _ h => (h.wk [3]).upto ⟨rfl, rfl, rfl, rfl, rfl, rfl, rfl, trivial⟩) ?_
     refine dg_off (i := 8) rfl (by kernel_rfl) (by kernel_rfl) (by kernel_rfl) [] (by kernel_rfl) (fun _ _ _ h => h) rfl rfl rfl rfl (by decide) rfl (by decide) (fun _ h => (h.wk [3]).upto ⟨rfl, rfl, rfl, rfl, rfl, rfl, rfl, trivial⟩) ?_
     refine dg_qg (i := 9) rfl (by kernel_rfl) (by kernel_rfl) (by kernel_rfl) [] (by kernel_rfl) (fun _ _ _ h => h) rfl rfl rfl rfl rfl (by decide) (fun _ h => (h.wk [3]).upto ⟨rfl, rfl, rfl, rfl, rfl, rfl, rfl, trivial⟩) (qt_pickF rfl rfl rfl) ?_
     refine dg_qg (i := 10) rfl (by kernel_rfl) (by kernel_rfl) (by kernel_rfl) [] (by kernel_rfl) (fun _ _ _ h => h) rfl rfl rfl rfl rfl (by decide) (fun _ h => (h.wk [3]).upto ⟨rfl, rfl, rfl, rfl, rfl, rfl, rfl, trivial⟩) (qt_move rfl rfl) ?_
     refine dg_off (i := 11) rfl (by kernel_rfl) (by kernel_rfl) (by kernel_rfl) [] (by kernel_rfl) (fun _ _ _ h => h) rfl rfl rfl rfl (by decide) rfl (by decide) (fun _ h => (h.wk [3]).upto ⟨rfl, rfl, rfl, rfl, rfl, rfl, rfl, trivial⟩) ?_
     refine dg_off (i := 12) rfl (by kernel_rfl) (by kernel_rfl) (by kernel_rfl) [] (by kernel_rfl) (fun _ _ _ h => h) rfl rfl rfl rfl (by decide) rfl (by decide) (fun _ h => (h.wk [3]).upto ⟨rfl, rfl, rfl, rfl, rfl, rfl, rfl, trivial⟩) ?_
     refine dg_qg (i := 13) rfl (by kernel_rfl) (by kernel_rfl) (by kernel_rfl) [] (by kernel_rfl) (fun _ _ _ h => h) rfl rfl rfl rfl rfl (by decide) (fun _ h => (h.wk [3]).upto ⟨rfl, rfl, rfl, rfl, rfl, rfl, rfl, trivial⟩) (qt_pickF rfl rfl rfl) ?_
     refine dg_q (i := 14) rfl (by kernel_rfl) (by kernel_rfl) (by kernel_rfl) [] (by kernel_rfl) (fun _ _ _ h => h) rfl rfl (by decide) (fun _ h => (h.wk [3]).upto ⟨rfl, rfl, rfl, rfl, rfl, rfl, rfl, trivial⟩) (qt_pickF rfl rfl rfl) ?_
     refine dg_one (i := 15) rfl (by decide) (by kernel_rfl) rfl ?_
     refine op_storeAll' (k := 3) rfl rfl rfl rfl (rfl) (by rfl) tyz_spec_l13Span.szx rfl rfl rfl ?_
     refine at_rsE (by simp only [ya,yb,yc,yd,Value.cells,ye]; rfl) ?_
     refine dr_keep (fun _ h => (h.wk [3]).upto ⟨rfl, rfl, rfl, rfl, rfl, rfl, rfl, trivial⟩) ?_
     refine dg_q (i := 16) rfl (by kernel_rfl) (by kernel_rfl) (by kernel_rfl) [] (by kernel_rfl) (fun _ _ _ h => h) rfl rfl (by decide) (fun _ h => (h.wk [3]).upto ⟨rfl, rfl, rfl, rfl, rfl, rfl, rfl, trivial⟩) (qt_assign rfl rfl) ?_
     refine dg_done (by kernel_rfl) ?_
     refine norm_then ?_
     refine at_retc ?_
     refine at_ret2 rfl (rvCelS (k := 3) rfl tys_spec_l13Span rfl rfl) (.tmp rfl) ?_
     intro w' hs
     exact ⟨by rw [if_pos q, q, Bool.true_and, show nonE s2 = false from (by simp [nonE]; omega)], hs.fin⟩

end Go.Proofs.YtakdjgldcpompaaGreat
