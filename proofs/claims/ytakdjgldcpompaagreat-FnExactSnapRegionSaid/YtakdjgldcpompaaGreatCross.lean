/- Meetings do not depend on the order; the rounded crossing lies in a pixel of both: plain words. -/
import Derived.Test.YtakdjgldcpompaaGreatHot
import Derived.Test.YtakdjgldcpompaaGreatPix
namespace Go.Proofs.YtakdjgldcpompaaGreat
open Go Go.RowKit
set_option linter.unusedVariables false
set_option linter.unusedSimpArgs false

/-! ### Meetings in another order -/
theorem strict_iff {a b c d : Pn} : strictM a b c d = true ↔ ((tn a b c < 0 ∧ 0 < tn a b d) ∨ (0 < tn a b c ∧ tn a b d < 0)) ∧ ((tn c d a < 0 ∧ 0 < tn c d b) ∨ (0 < tn c d a ∧ tn c d b < 0)) := by
 simp only [strictM, Bool.and_eq_true, decide_eq_true_eq, sgn_mul_neg]
/-! ### Rounding -/
theorem rnd_iff {n d r : Int} (hd : 0 < d) : rnd n d = r ↔ (2 * r - 1) * d ≤ 2 * n ∧ 2 * n < (2 * r + 1) * d := by
 have h1 := Int.emod_nonneg n (show d ≠ 0 by omega)
 have h2 := Int.emod_lt_of_pos n hd
 have h3 := Int.mul_ediv_add_emod n d
 have key : (2 * rnd n d - 1) * d ≤ 2 * n ∧ 2 * n < (2 * rnd n d + 1) * d := by
  unfold rnd
  split
  ·have e : (2 * (n / d + 1) - 1) * d = 2 * (d * (n / d)) + d := by grind
   have e' : (2 * (n / d + 1) + 1) * d = 2 * (d * (n / d)) + 3 * d := by grind
   omega
  ·have e : (2 * (n / d) - 1) * d = 2 * (d * (n / d)) - d := by grind
   have e' : (2 * (n / d) + 1) * d = 2 * (d * (n / d)) + d := by grind
   omega
 constructor
 ·intro h; rw [← h]; exact key
 ·rintro ⟨k1, k2⟩
  have a1 : (2 * r - 1) * d < (2 * rnd n d + 1) * d := by omega
  have a2 : (2 * rnd n d - 1) * d < (2 * r + 1) * d := by omega
  have b1 := Int.lt_of_mul_lt_mul_right a1 (Int.le_of_lt hd)
  have b2 := Int.lt_of_mul_lt_mul_right a2 (Int.le_of_lt hd)
  omega
/-! ### Pixels -/
/-- The quotient N / D lies in a span. -/
def Ctn (s : Sp) (N D : Int) : Prop := (s.ln * D < N * s.ld ∨ (s.ln * D = N * s.ld ∧ s.lc = true)) ∧ (N * s.hd < s.hn * D ∨ (N * s.hd = s.hn * D ∧ s.hc = true))
theorem ctn_non {s : Sp} {N D : Int} (hD : 0 < D) (hl : 0 < s.ld) (hh : 0 < s.hd) (h : Ctn s N D) : nonE s = true := by
 obtain ⟨h1, h2⟩ := h
 simp only [nonE, Bool.or_eq_true, Bool.and_eq_true, decide_eq_true_eq]
 rcases h1 with h1 | ⟨h1, c1⟩
 ·left
  have := frac_lt (a := s.ln) (b := s.ld) (c := N) (d := D) (e := s.hn) (f := s.hd) hD hl hh h1 (by rcases h2 with h2 | ⟨h2, _⟩ <;> omega)
  omega
 ·rcases h2 with h2 | ⟨h2, c2⟩
  ·left
   have := frac_lt' (a := s.ln) (b := s.ld) (c := N) (d := D) (e := s.hn) (f := s.hd) hD hl hh (by omega) h2
   omega
  ·have := frac_le (a := s.ln) (b := s.ld) (c := N) (d := D) (e := s.hn) (f := s.hd) hD hl hh (by omega) (by omega)
   by_cases e : s.ln * s.hd - s.hn * s.ld = 0
   ·exact .inr ⟨⟨e, c1⟩, c2⟩
   ·left; omega
theorem ctn_meet {s x : Sp} {N D : Int} (h : Ctn s N D) (hx : Ctn x N D) : Ctn (spMeet s x) N D := by
 have hl : Ctn (meetLow s x) N D := by unfold meetLow; split; exact ⟨hx.1, h.2⟩; exact h
 unfold spMeet meetHigh
 split
 ·exact ⟨hl.1, hx.2⟩
 ·exact hl
theorem ctn_sp0 {N D : Int} (h0 : 0 ≤ N) (h1 : N ≤ D) : Ctn sp0 N D := by
 unfold Ctn sp0
 simp
 omega
/-- A coordinate that stays in the pixel at N / D. -/
def InC (f d lo N D : Int) : Prop := lo * D ≤ f * D + d * N ∧ f * D + d * N < (lo + 2) * D
theorem ctn_pix {f d lo N D : Int} (hD : 0 < D) (h0 : 0 ≤ N) (h1 : N ≤ D) (h : InC f d lo N D) : pixIn f d lo = true ∧ Ctn (pixX f d lo) N D := by
 obtain ⟨k1, k2⟩ := h
 unfold pixIn pixX
 by_cases p : 0 < d
 ·rw [if_pos p]
  refine ⟨by simp; omega, ?_, ?_⟩
  ·have e : (lo - f) * D = lo * D - f * D := by grind
   have e' : N * d = d * N := Int.mul_comm _ _
   show (lo - f) * D < N * d ∨ ((lo - f) * D = N * d ∧ true = true)
   rcases Int.lt_or_eq_of_le (show (lo - f) * D ≤ N * d by omega) with h | h
   ·exact .inl h
   ·exact .inr ⟨h, rfl⟩
  ·left
   have e : (lo + 2 - f) * D = (lo + 2) * D - f * D := by grind
   have e' : N * d = d * N := Int.mul_comm _ _
   show N * d < (lo + 2 - f) * D
   omega
 ·rw [if_neg p]
  by_cases q : d < 0
  ·rw [if_pos q]
   refine ⟨by simp; omega, ?_, ?_⟩
   ·left
    have e : (f - lo - 2) * D = f * D - (lo + 2) * D := by grind
    have e' : N * -d = -(d * N) := by grind
    show (f - lo - 2) * D < N * -d
    omega
   ·have e : (f - lo) * D = f * D - lo * D := by grind
    have e' : N * -d = -(d * N) := by grind
    show N * -d < (f - lo) * D ∨ (N * -d = (f - lo) * D ∧ true = true)
    rcases Int.lt_or_eq_of_le (show N * -d ≤ (f - lo) * D by omega) with h | h
    ·exact .inl h
    ·exact .inr ⟨h, rfl⟩
  ·rw [if_neg q]
   have d0 : d = 0 := by omega
   subst d0
   have e : f * D + 0 * N = f * D := by omega
   rw [e] at k1 k2
   have g1 := Int.le_of_mul_le_mul_right k1 hD
   have g2 := Int.lt_of_mul_lt_mul_right k2 (Int.le_of_lt hD)
   exact ⟨by simp; omega, ctn_sp0 h0 h1⟩
theorem ins_of {f d lo f' d' lo' N D : Int} (hD : 0 < D) (h0 : 0 ≤ N) (h1 : N ≤ D) (h : InC f d lo N D) (h' : InC f' d' lo' N D) : insB f d lo f' d' lo' = true := by
 obtain ⟨a1, a2⟩ := ctn_pix hD h0 h1 h
 obtain ⟨b1, b2⟩ := ctn_pix hD h0 h1 h'
 have p1 := spMeet_pos sp0_pos (pixX_pos f d lo)
 have p2 := spMeet_pos p1 (pixX_pos f' d' lo')
 rw [insB, a1, b1, ctn_non hD p2.1 p2.2 (ctn_meet (ctn_meet (ctn_sp0 h0 h1) a2) b2)]
 rfl
/-- Whether a segment meets the pixel of a point. -/
def ipB (a b p : Pn) : Bool := okB a.1 a.2 && okB b.1 b.2 && okB p.1 p.2 && insB (2 * a.1) (2 * (b.1 - a.1)) (2 * p.1 - 1) (2 * a.2) (2 * (b.2 - a.2)) (2 * p.2 - 1)
theorem ip_of {a b p : Pn} {N D : Int} (ha : bd2 a) (hb : bd2 b) (hp : bd2 p) (hD : 0 < D) (h0 : 0 ≤ N) (h1 : N ≤ D)
  (hx : (2 * p.1 - 1) * D ≤ 2 * (a.1 * D + (b.1 - a.1) * N) ∧ 2 * (a.1 * D + (b.1 - a.1) * N) < (2 * p.1 + 1) * D)
  (hy : (2 * p.2 - 1) * D ≤ 2 * (a.2 * D + (b.2 - a.2) * N) ∧ 2 * (a.2 * D + (b.2 - a.2) * N) < (2 * p.2 + 1) * D) : ipB a b p = true := by
 rw [ipB, bd2_ok ha, bd2_ok hb, bd2_ok hp, Bool.true_and, Bool.true_and, Bool.true_and]
 refine ins_of hD h0 h1 ?_ ?_
 ·have e : 2 * a.1 * D + 2 * (b.1 - a.1) * N = 2 * (a.1 * D + (b.1 - a.1) * N) := by grind
  have e2 : (2 * p.1 - 1 + 2) * D = (2 * p.1 + 1) * D := by grind
  unfold InC
  rw [e, e2]
  exact hx
 ·have e : 2 * a.2 * D + 2 * (b.2 - a.2) * N = 2 * (a.2 * D + (b.2 - a.2) * N) := by grind
  have e2 : (2 * p.2 - 1 + 2) * D = (2 * p.2 + 1) * D := by grind
  unfold InC
  rw [e, e2]
  exact hy
/-- A middle of two numbers, rounded, lies between the same bounds. -/
theorem mid_rnd {x y N D B r : Int} (hx : -B ≤ x ∧ x ≤ B) (hy : -B ≤ y ∧ y ≤ B) (hD : 0 < D) (h0 : 0 ≤ N) (h1 : N ≤ D) (h : (2 * r - 1) * D ≤ 2 * (x * D + (y - x) * N) ∧ 2 * (x * D + (y - x) * N) < (2 * r + 1) * D) : -B ≤ r ∧ r ≤ B := by
 have e : x * D + (y - x) * N = x * (D - N) + y * N := by grind
 rw [e] at h
 have a1 : x * (D - N) ≤ B * (D - N) := Int.mul_le_mul_of_nonneg_right hx.2 (by omega)
 have a2 : y * N ≤ B * N := Int.mul_le_mul_of_nonneg_right hy.2 h0
 have a3 : -B * (D - N) ≤ x * (D - N) := Int.mul_le_mul_of_nonneg_right hx.1 (by omega)
 have a4 : -B * N ≤ y * N := Int.mul_le_mul_of_nonneg_right hy.1 h0
 have e1 : B * (D - N) + B * N = B * D := by grind
 have e2 : -B * (D - N) + -B * N = -B * D := by grind
 have k1 : (2 * r - 1) * D ≤ (2 * B) * D := by
  have : 2 * B * D = 2 * (B * D) := by grind
  omega
 have k2 : (2 * -B) * D < (2 * r + 1) * D := by
  have : 2 * -B * D = 2 * (-B * D) := by grind
  omega
 have m1 := Int.le_of_mul_le_mul_right k1 hD
 have m2 := Int.lt_of_mul_lt_mul_right k2 (Int.le_of_lt hD)
 omega
theorem crs_in {x y n d : Int} (hd : d ≠ 0) : ∃ N D : Int, 0 < D ∧ ((d < 0 ∧ N = -n ∧ D = -d) ∨ (0 < d ∧ N = n ∧ D = d)) ∧ (2 * crs x y n d - 1) * D ≤ 2 * (x * D + (y - x) * N) ∧ 2 * (x * D + (y - x) * N) < (2 * crs x y n d + 1) * D := by
 unfold crs
 split
 ·exact ⟨-n, -d, by omega, .inl ⟨by assumption, rfl, rfl⟩, (rnd_iff (by omega)).1 rfl⟩
 ·exact ⟨n, d, by omega, .inr ⟨by omega, rfl, rfl⟩, (rnd_iff (by omega)).1 rfl⟩
/-- The rounded crossing lies in a pixel of the first segment. -/
theorem cross_pix {a b c d : Pn} (ha : bd2 a) (hb : bd2 b) (hs : strictM a b c d = true) : bd2 (crP a b c d) ∧ ipB a b (crP a b c d) = true := by
 have hD := strict_den hs
 have hs2 := (strict_iff.1 hs).2
 rw [← crN_tn a c d] at hs2
 have e := crD_tn a b c d
 rw [← crN_tn a c d] at e
 obtain ⟨N, D, h0, h1, hx⟩ := crs_in (x := a.1) (y := b.1) (n := crN a c d) hD
 obtain ⟨N', D', _, h1', hy⟩ := crs_in (x := a.2) (y := b.2) (n := crN a c d) hD
 obtain rfl : N' = N := by omega
 obtain rfl : D' = D := by omega
 have n0 : 0 ≤ N' ∧ N' ≤ D' := by omega
 have m1 := mid_rnd ha.1 hb.1 h0 n0.1 n0.2 hx
 have m2 := mid_rnd ha.2 hb.2 h0 n0.1 n0.2 hy
 have hp : bd2 (crP a b c d) := ⟨m1, m2⟩
 exact ⟨hp, ip_of ha hb hp h0 n0.1 n0.2 hx hy⟩
end Go.Proofs.YtakdjgldcpompaaGreat
