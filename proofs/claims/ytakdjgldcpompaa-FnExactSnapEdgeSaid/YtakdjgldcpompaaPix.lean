/- The part of a segment in a pixel: the plain law. -/
import Derived.Test.YtakdjgldcpompaaMem
namespace Go.Proofs.Ytakdjgldcpompaa

/-- An interval of quotients: ln / ld to hn / hd, its ends belong to it or not. -/
structure Sp where
  ln : Int
  ld : Int
  lc : Bool
  hn : Int
  hd : Int
  hc : Bool
def sp0 : Sp := ⟨0, 1, true, 1, 1, true⟩
def nonE (s : Sp) : Bool := decide (s.ln * s.hd - s.hn * s.ld < 0) || (decide (s.ln * s.hd - s.hn * s.ld = 0) && s.lc && s.hc)
def upLow (s x : Sp) : Bool := decide (s.ln * x.ld - x.ln * s.ld < 0) || (decide (s.ln * x.ld - x.ln * s.ld = 0) && !x.lc)
def upHigh (s x : Sp) : Bool := decide (s.hn * x.hd - x.hn * s.hd > 0) || (decide (s.hn * x.hd - x.hn * s.hd = 0) && !x.hc)
def meetLow (s x : Sp) : Sp := if upLow s x = true then { s with ln := x.ln, ld := x.ld, lc := x.lc } else s
def meetHigh (s x : Sp) : Sp := if upHigh s x = true then { s with hn := x.hn, hd := x.hd, hc := x.hc } else s
def spMeet (s x : Sp) : Sp := meetHigh (meetLow s x) x

theorem frac_le {a b c d e f : Int} (hd : 0 < d) (hb : 0 < b) (hf : 0 < f) (h1 : a * d ≤ c * b) (h2 : c * f ≤ e * d) : a * f ≤ e * b := by
  have p1 := Int.mul_le_mul_of_nonneg_right h1 (Int.le_of_lt hf)
  have p2 := Int.mul_le_mul_of_nonneg_right h2 (Int.le_of_lt hb)
  have e1 : a * d * f = a * f * d := by rw [Int.mul_assoc, Int.mul_comm d f, ← Int.mul_assoc]
  have e2 : c * b * f = c * f * b := by rw [Int.mul_assoc, Int.mul_comm b f, ← Int.mul_assoc]
  have e3 : e * d * b = e * b * d := by rw [Int.mul_assoc, Int.mul_comm d b, ← Int.mul_assoc]
  rw [e1, e2] at p1
  rw [e3] at p2
  exact Int.le_of_mul_le_mul_right (Int.le_trans p1 p2) hd
theorem frac_lt {a b c d e f : Int} (hd : 0 < d) (hb : 0 < b) (hf : 0 < f) (h1 : a * d < c * b) (h2 : c * f ≤ e * d) : a * f < e * b := by
  have p1 := Int.mul_lt_mul_of_pos_right h1 hf
  have p2 := Int.mul_le_mul_of_nonneg_right h2 (Int.le_of_lt hb)
  have e1 : a * d * f = a * f * d := by rw [Int.mul_assoc, Int.mul_comm d f, ← Int.mul_assoc]
  have e2 : c * b * f = c * f * b := by rw [Int.mul_assoc, Int.mul_comm b f, ← Int.mul_assoc]
  have e3 : e * d * b = e * b * d := by rw [Int.mul_assoc, Int.mul_comm d b, ← Int.mul_assoc]
  rw [e1, e2] at p1
  rw [e3] at p2
  exact Int.lt_of_mul_lt_mul_right (Int.lt_of_lt_of_le p1 p2) (Int.le_of_lt hd)
theorem frac_lt' {a b c d e f : Int} (hd : 0 < d) (hb : 0 < b) (hf : 0 < f) (h1 : a * d ≤ c * b) (h2 : c * f < e * d) : a * f < e * b := by
  have p1 := Int.mul_le_mul_of_nonneg_right h1 (Int.le_of_lt hf)
  have p2 := Int.mul_lt_mul_of_pos_right h2 hb
  have e1 : a * d * f = a * f * d := by rw [Int.mul_assoc, Int.mul_comm d f, ← Int.mul_assoc]
  have e2 : c * b * f = c * f * b := by rw [Int.mul_assoc, Int.mul_comm b f, ← Int.mul_assoc]
  have e3 : e * d * b = e * b * d := by rw [Int.mul_assoc, Int.mul_comm d b, ← Int.mul_assoc]
  rw [e1, e2] at p1
  rw [e3] at p2
  exact Int.lt_of_mul_lt_mul_right (Int.lt_of_le_of_lt p1 p2) (Int.le_of_lt hd)

/-- What a further part leaves of an interval without points has none. -/
theorem nonE_low {s x : Sp} (h1 : 0 < s.ld) (h2 : 0 < s.hd) (h3 : 0 < x.ld) (h : nonE (meetLow s x) = true) : nonE s = true := by
  unfold meetLow at h
  split at h
  case isFalse => exact h
  case isTrue hu =>
    simp only [nonE, upLow, Bool.or_eq_true, Bool.and_eq_true, decide_eq_true_eq, Bool.not_eq_true'] at *
    obtain ⟨sln, sld, slc, shn, shd, shc⟩ := s
    obtain ⟨xln, xld, xlc, xhn, xhd, xhc⟩ := x
    simp only at *
    rcases hu with hu | ⟨hu, hx⟩
    · left
      have : sln * shd < shn * sld := by
        rcases h with h | h
        · exact frac_lt' (d := xld) (c := xln) h3 h1 h2 (by omega) (by omega)
        · exact frac_lt (d := xld) (c := xln) h3 h1 h2 (by omega) (by omega)
      omega
    · rcases h with h | ⟨⟨h, h'⟩, _⟩
      · left
        have : sln * shd < shn * sld := frac_lt' (d := xld) (c := xln) h3 h1 h2 (by omega) (by omega)
        omega
      · rw [hx] at h'; cases h'
theorem nonE_high {s x : Sp} (h1 : 0 < s.ld) (h2 : 0 < s.hd) (h3 : 0 < x.hd) (h : nonE (meetHigh s x) = true) : nonE s = true := by
  unfold meetHigh at h
  split at h
  case isFalse => exact h
  case isTrue hu =>
    simp only [nonE, upHigh, Bool.or_eq_true, Bool.and_eq_true, decide_eq_true_eq, Bool.not_eq_true'] at *
    obtain ⟨sln, sld, slc, shn, shd, shc⟩ := s
    obtain ⟨xln, xld, xlc, xhn, xhd, xhc⟩ := x
    simp only at *
    rcases hu with hu | ⟨hu, hx⟩
    · left
      have : sln * shd < shn * sld := by
        rcases h with h | h
        · exact frac_lt (d := xhd) (c := xhn) h3 h1 h2 (by omega) (by omega)
        · exact frac_lt' (d := xhd) (c := xhn) h3 h1 h2 (by omega) (by omega)
      omega
    · rcases h with h | ⟨⟨h, _⟩, h'⟩
      · left
        have : sln * shd < shn * sld := frac_lt (d := xhd) (c := xhn) h3 h1 h2 (by omega) (by omega)
        omega
      · rw [hx] at h'; cases h'

/-- The parameters for which a coordinate lies in a stretch of two. -/
def pixX (f d lo : Int) : Sp := if 0 < d then ⟨lo - f, d, true, lo + 2 - f, d, false⟩ else if d < 0 then ⟨f - lo - 2, -d, false, f - lo, -d, true⟩ else sp0
def pixIn (f d lo : Int) : Bool := !decide (d = 0) || (decide (lo ≤ f) && decide (f < lo + 2))
/-- The program's step: the new interval, and whether it has points. -/
def clipS (s : Sp) (f d lo : Int) : Sp := if d = 0 then s else spMeet s (pixX f d lo)
def clipB (s : Sp) (f d lo : Int) : Bool := if d = 0 then decide (lo ≤ f) && decide (f < lo + 2) else nonE (spMeet s (pixX f d lo))

theorem pixX_pos (f d lo : Int) : 0 < (pixX f d lo).ld ∧ 0 < (pixX f d lo).hd := by
  unfold pixX
  split
  · exact ⟨by assumption, by assumption⟩
  · split
    · exact ⟨by simp; omega, by simp; omega⟩
    · exact ⟨by decide, by decide⟩
theorem meetLow_pos {s x : Sp} (h : 0 < s.ld ∧ 0 < s.hd) (hx : 0 < x.ld ∧ 0 < x.hd) : 0 < (meetLow s x).ld ∧ 0 < (meetLow s x).hd := by
  unfold meetLow; split
  · exact ⟨hx.1, h.2⟩
  · exact h
theorem spMeet_pos {s x : Sp} (h : 0 < s.ld ∧ 0 < s.hd) (hx : 0 < x.ld ∧ 0 < x.hd) : 0 < (spMeet s x).ld ∧ 0 < (spMeet s x).hd := by
  have h' := meetLow_pos h hx
  unfold spMeet meetHigh; split
  · exact ⟨h'.1, hx.2⟩
  · exact h'
theorem sp0_pos : 0 < sp0.ld ∧ 0 < sp0.hd := ⟨by decide, by decide⟩
theorem nonE_meet {s x : Sp} (h : 0 < s.ld ∧ 0 < s.hd) (hx : 0 < x.ld ∧ 0 < x.hd) (hn : nonE (spMeet s x) = true) : nonE s = true := by
  have h' := meetLow_pos h hx
  exact nonE_low h.1 h.2 hx.1 (nonE_high h'.1 h'.2 hx.2 hn)

/-- Within 0 to 1. -/
def unitS (s : Sp) : Prop := 0 ≤ s.ln ∧ s.hn ≤ s.hd
theorem unit_meet {x : Sp} : unitS (spMeet sp0 x) := by
  unfold unitS spMeet meetHigh meetLow upHigh upLow sp0
  constructor
  · split <;> split <;> simp_all <;> omega
  · split <;> split <;> simp_all <;> omega
theorem meet_sp0 {s : Sp} (h : unitS s) : spMeet s sp0 = s := by
  obtain ⟨h1, h2⟩ := h
  have e1 : upLow s sp0 = false := by simp [upLow, sp0]; omega
  have e2 : upHigh s sp0 = false := by simp [upHigh, sp0]; omega
  have e3 : meetLow s sp0 = s := by rw [meetLow, e1]; rfl
  rw [spMeet, e3, meetHigh, e2]; rfl
theorem sp0_unit : unitS sp0 := ⟨by decide, by decide⟩

/-- The reference's answer. -/
def insB (f d lo f' d' lo' : Int) : Bool := pixIn f d lo && pixIn f' d' lo' && nonE (spMeet (spMeet sp0 (pixX f d lo)) (pixX f' d' lo'))
theorem pixX_zero (f lo : Int) : pixX f 0 lo = sp0 := by simp [pixX]
theorem clipS_eq {s : Sp} (h : unitS s) (f d lo : Int) : clipS s f d lo = spMeet s (pixX f d lo) := by
  unfold clipS
  split
  · rename_i h0; subst h0; rw [pixX_zero, meet_sp0 h]
  · rfl
theorem clipB_eq {s : Sp} (h : unitS s) (hn : nonE s = true) (f d lo : Int) : clipB s f d lo = (pixIn f d lo && nonE (spMeet s (pixX f d lo))) := by
  unfold clipB pixIn
  split
  · rename_i h0; subst h0; rw [pixX_zero, meet_sp0 h, hn]; simp
  · rename_i h0; simp [h0]
theorem clip_law (f d lo f' d' lo' : Int) : insB f d lo f' d' lo' = (clipB sp0 f d lo && clipB (clipS sp0 f d lo) f' d' lo') := by
  have hn0 : nonE sp0 = true := by decide
  rw [clipS_eq sp0_unit, clipB_eq sp0_unit hn0, insB]
  cases h1 : pixIn f d lo
  · simp
  · cases h2 : nonE (spMeet sp0 (pixX f d lo))
    · have : nonE (spMeet (spMeet sp0 (pixX f d lo)) (pixX f' d' lo')) = false := by
        cases h3 : nonE (spMeet (spMeet sp0 (pixX f d lo)) (pixX f' d' lo'))
        · rfl
        · have := nonE_meet (spMeet_pos sp0_pos (pixX_pos _ _ _)) (pixX_pos _ _ _) h3
          rw [h2] at this; cases this
      simp [this]
    · rw [clipB_eq unit_meet h2]
      simp
end Go.Proofs.Ytakdjgldcpompaa
