/- Meetings do not depend on the order; the rounded crossing lies in a pixel of both: plain words. -/
import Derived.Test.YtoghpiinegfddaaHot
import Derived.Test.YtoghpiinegfddaaPix4
namespace Go.Proofs.Ytoghpiinegfddaa
open Go Go.RowKit
set_option linter.unusedVariables false
set_option linter.unusedSimpArgs false

/-! ### Meetings in another order -/
theorem tn_flip (a b p : Pn) : tn b a p = -tn a b p := by simp only [tn, trn]; grind
theorem on2_swap (a b p : Pn) : on2 a b p = on2 b a p := by
  have : tn a b p = 0 ↔ tn b a p = 0 := by have := tn_flip a b p; omega
  rw [Bool.eq_iff_iff, on2_iff, on2_iff, this, Int.min_comm, Int.max_comm, Int.min_comm a.2, Int.max_comm a.2]
theorem kind_of {a b c d a' b' c' d' : Pn} (hm : ∀ q, q ∈ endsM a b c d ↔ q ∈ endsM a' b' c' d') (hs : strictM a b c d = strictM a' b' c' d') : meetS a b c d = meetS a' b' c' d' := by
  have n1 := endsM_nodup a b c d
  have n2 := endsM_nodup a' b' c' d'
  unfold meetS
  rw [hs]
  generalize endsM a b c d = l at *
  generalize endsM a' b' c' d' = m at *
  have h0 : l.length = 0 ↔ m.length = 0 := by
    constructor
    · intro h
      have := List.eq_nil_of_length_eq_zero h
      subst this
      exact len0 fun q hq => absurd ((hm q).2 hq) (by simp)
    · intro h
      have := List.eq_nil_of_length_eq_zero h
      subst this
      exact len0 fun q hq => absurd ((hm q).1 hq) (by simp)
  have h1 : l.length = 1 ↔ m.length = 1 := by
    constructor
    · intro h
      match l, h with
      | [x], _ => rw [len1 (p := x) n2 ((hm x).1 (by simp)) (fun q hq => by simpa using (hm q).2 hq)]; rfl
    · intro h
      match m, h with
      | [x], _ => rw [len1 (p := x) n1 ((hm x).2 (by simp)) (fun q hq => by simpa using (hm q).1 hq)]; rfl
  by_cases e0 : l.length = 0
  · rw [if_pos e0, if_pos (h0.1 e0)]
  · rw [if_neg e0, if_neg (fun h => e0 (h0.2 h))]
    by_cases e1 : l.length = 1
    · rw [if_pos e1, if_pos (h1.1 e1)]
    · rw [if_neg e1, if_neg (fun h => e1 (h1.2 h))]
theorem ends_pair {a b c d q : Pn} : q ∈ endsM a b c d ↔ q ∈ endsM c d a b := by
  rw [endsM_mem, endsM_mem, bothM, bothM, Bool.and_comm]
  constructor
  · rintro ⟨h, h2⟩; exact ⟨by rcases h with h | h | h | h <;> simp [h], h2⟩
  · rintro ⟨h, h2⟩; exact ⟨by rcases h with h | h | h | h <;> simp [h], h2⟩
theorem ends_turn {a b c d q : Pn} : q ∈ endsM a b c d ↔ q ∈ endsM b a d c := by
  rw [endsM_mem, endsM_mem, bothM, bothM, on2_swap a b, on2_swap c d]
  constructor
  · rintro ⟨h, h2⟩; exact ⟨by rcases h with h | h | h | h <;> simp [h], h2⟩
  · rintro ⟨h, h2⟩; exact ⟨by rcases h with h | h | h | h <;> simp [h], h2⟩
theorem strict_iff {a b c d : Pn} : strictM a b c d = true ↔ ((tn a b c < 0 ∧ 0 < tn a b d) ∨ (0 < tn a b c ∧ tn a b d < 0)) ∧ ((tn c d a < 0 ∧ 0 < tn c d b) ∨ (0 < tn c d a ∧ tn c d b < 0)) := by
  simp only [strictM, Bool.and_eq_true, decide_eq_true_eq, sgn_mul_neg]
theorem kind_pair (a b c d : Pn) : meetS c d a b = meetS a b c d := kind_of (fun q => ends_pair.symm) (by rw [Bool.eq_iff_iff, strict_iff, strict_iff]; exact And.comm)
theorem kind_turn (a b c d : Pn) : meetS b a d c = meetS a b c d := kind_of (fun q => ends_turn.symm) (by
  have e1 := tn_flip a b c; have e2 := tn_flip a b d; have e3 := tn_flip c d a; have e4 := tn_flip c d b
  rw [Bool.eq_iff_iff, strict_iff, strict_iff]
  omega)
/-! ### Rounding -/
theorem rnd_iff {n d r : Int} (hd : 0 < d) : rnd n d = r ↔ (2 * r - 1) * d ≤ 2 * n ∧ 2 * n < (2 * r + 1) * d := by
  have h1 := Int.emod_nonneg n (show d ≠ 0 by omega)
  have h2 := Int.emod_lt_of_pos n hd
  have h3 := Int.mul_ediv_add_emod n d
  have key : (2 * rnd n d - 1) * d ≤ 2 * n ∧ 2 * n < (2 * rnd n d + 1) * d := by
    unfold rnd
    split
    · have e : (2 * (n / d + 1) - 1) * d = 2 * (d * (n / d)) + d := by grind
      have e' : (2 * (n / d + 1) + 1) * d = 2 * (d * (n / d)) + 3 * d := by grind
      omega
    · have e : (2 * (n / d) - 1) * d = 2 * (d * (n / d)) - d := by grind
      have e' : (2 * (n / d) + 1) * d = 2 * (d * (n / d)) + d := by grind
      omega
  constructor
  · intro h; rw [← h]; exact key
  · rintro ⟨k1, k2⟩
    have a1 : (2 * r - 1) * d < (2 * rnd n d + 1) * d := by omega
    have a2 : (2 * rnd n d - 1) * d < (2 * r + 1) * d := by omega
    have b1 := Int.lt_of_mul_lt_mul_right a1 (Int.le_of_lt hd)
    have b2 := Int.lt_of_mul_lt_mul_right a2 (Int.le_of_lt hd)
    omega
/-- Rounding depends on the quotient alone. -/
theorem rnd_quot {n d n' d' : Int} (hd : 0 < d) (hd' : 0 < d') (h : n * d' = n' * d) : rnd n d = rnd n' d' := by
  obtain ⟨k1, k2⟩ := (rnd_iff (n := n') hd').1 rfl
  rw [rnd_iff hd]
  generalize rnd n' d' = r at *
  have e1 : (2 * r - 1) * d' * d ≤ 2 * n' * d := Int.mul_le_mul_of_nonneg_right k1 (Int.le_of_lt hd)
  have e2 : 2 * n' * d < (2 * r + 1) * d' * d := Int.mul_lt_mul_of_pos_right k2 hd
  have e3 : 2 * n' * d = 2 * n * d' := by grind
  rw [e3] at e1 e2
  have e4 : (2 * r - 1) * d' * d = (2 * r - 1) * d * d' := by grind
  have e5 : (2 * r + 1) * d' * d = (2 * r + 1) * d * d' := by grind
  rw [e4] at e1
  rw [e5] at e2
  exact ⟨Int.le_of_mul_le_mul_right e1 hd', Int.lt_of_mul_lt_mul_right e2 (Int.le_of_lt hd')⟩
theorem crs_quot {x y u v n d n' d' : Int} (hd : d ≠ 0) (hd' : d' ≠ 0) (h : (x * d + (y - x) * n) * d' = (u * d' + (v - u) * n') * d) : crs x y n d = crs u v n' d' := by
  unfold crs
  split <;> split
  · exact rnd_quot (by omega) (by omega) (by grind)
  · exact rnd_quot (by omega) (by omega) (by grind)
  · exact rnd_quot (by omega) (by omega) (by grind)
  · exact rnd_quot (by omega) (by omega) (by grind)
theorem cross_pair {a b c d : Pn} (h : crD a b c d ≠ 0) (h' : crD c d a b ≠ 0) : crP c d a b = crP a b c d := by
  obtain ⟨a1, a2⟩ := a; obtain ⟨b1, b2⟩ := b; obtain ⟨c1, c2⟩ := c; obtain ⟨d1, d2⟩ := d
  unfold crP
  refine Prod.ext (crs_quot h' h ?_) (crs_quot h' h ?_)
  · simp only [crD_tn, crN_tn, tn, trn]; grind
  · simp only [crD_tn, crN_tn, tn, trn]; grind
theorem cross_turn {a b c d : Pn} (h : crD a b c d ≠ 0) (h' : crD d c b a ≠ 0) : crP d c b a = crP a b c d := by
  obtain ⟨a1, a2⟩ := a; obtain ⟨b1, b2⟩ := b; obtain ⟨c1, c2⟩ := c; obtain ⟨d1, d2⟩ := d
  unfold crP
  refine Prod.ext (crs_quot h' h ?_) (crs_quot h' h ?_)
  · simp only [crD_tn, crN_tn, tn, trn]; grind
  · simp only [crD_tn, crN_tn, tn, trn]; grind
/-! ### Pixels -/
/-- The quotient N / D lies in a span. -/
def Ctn (s : Sp) (N D : Int) : Prop := (s.ln * D < N * s.ld ∨ (s.ln * D = N * s.ld ∧ s.lc = true)) ∧ (N * s.hd < s.hn * D ∨ (N * s.hd = s.hn * D ∧ s.hc = true))
theorem ctn_non {s : Sp} {N D : Int} (hD : 0 < D) (hl : 0 < s.ld) (hh : 0 < s.hd) (h : Ctn s N D) : nonE s = true := by
  obtain ⟨h1, h2⟩ := h
  simp only [nonE, Bool.or_eq_true, Bool.and_eq_true, decide_eq_true_eq]
  rcases h1 with h1 | ⟨h1, c1⟩
  · left
    have := frac_lt (a := s.ln) (b := s.ld) (c := N) (d := D) (e := s.hn) (f := s.hd) hD hl hh h1 (by rcases h2 with h2 | ⟨h2, _⟩ <;> omega)
    omega
  · rcases h2 with h2 | ⟨h2, c2⟩
    · left
      have := frac_lt' (a := s.ln) (b := s.ld) (c := N) (d := D) (e := s.hn) (f := s.hd) hD hl hh (by omega) h2
      omega
    · have := frac_le (a := s.ln) (b := s.ld) (c := N) (d := D) (e := s.hn) (f := s.hd) hD hl hh (by omega) (by omega)
      by_cases e : s.ln * s.hd - s.hn * s.ld = 0
      · exact .inr ⟨⟨e, c1⟩, c2⟩
      · left; omega
theorem ctn_meet {s x : Sp} {N D : Int} (h : Ctn s N D) (hx : Ctn x N D) : Ctn (spMeet s x) N D := by
  have hl : Ctn (meetLow s x) N D := by unfold meetLow; split; exact ⟨hx.1, h.2⟩; exact h
  unfold spMeet meetHigh
  split
  · exact ⟨hl.1, hx.2⟩
  · exact hl
theorem ctn_sp0 {N D : Int} (h0 : 0 ≤ N) (h1 : N ≤ D) : Ctn sp0 N D := by
  unfold Ctn sp0
  simp
  omega
/-- A coordinate that stays in the pixel at N / D. -/
def InC (f d lo N D : Int) : Prop := lo * D ≤ f * D + d * N ∧ f * D + d * N < (lo + 2) * D
theorem ctn_pix {f d lo N D : Int} (hD : 0 < D) (h0 : 0 ≤ N) (h1 : N ≤ D) (h : InC f d lo N D) : pixIn f d lo = true ∧ Ctn (pixX f d lo) N D := by
  obtain ⟨k1, k2⟩ := h
  unfold pixIn pixX
  by_cases p : 0 < d
  · rw [if_pos p]
    refine ⟨by simp; omega, ?_, ?_⟩
    · have e : (lo - f) * D = lo * D - f * D := by grind
      have e' : N * d = d * N := Int.mul_comm _ _
      show (lo - f) * D < N * d ∨ ((lo - f) * D = N * d ∧ true = true)
      rcases Int.lt_or_eq_of_le (show (lo - f) * D ≤ N * d by omega) with h | h
      · exact .inl h
      · exact .inr ⟨h, rfl⟩
    · left
      have e : (lo + 2 - f) * D = (lo + 2) * D - f * D := by grind
      have e' : N * d = d * N := Int.mul_comm _ _
      show N * d < (lo + 2 - f) * D
      omega
  · rw [if_neg p]
    by_cases q : d < 0
    · rw [if_pos q]
      refine ⟨by simp; omega, ?_, ?_⟩
      · left
        have e : (f - lo - 2) * D = f * D - (lo + 2) * D := by grind
        have e' : N * -d = -(d * N) := by grind
        show (f - lo - 2) * D < N * -d
        omega
      · have e : (f - lo) * D = f * D - lo * D := by grind
        have e' : N * -d = -(d * N) := by grind
        show N * -d < (f - lo) * D ∨ (N * -d = (f - lo) * D ∧ true = true)
        rcases Int.lt_or_eq_of_le (show N * -d ≤ (f - lo) * D by omega) with h | h
        · exact .inl h
        · exact .inr ⟨h, rfl⟩
    · rw [if_neg q]
      have d0 : d = 0 := by omega
      subst d0
      have e : f * D + 0 * N = f * D := by omega
      rw [e] at k1 k2
      have g1 := Int.le_of_mul_le_mul_right k1 hD
      have g2 := Int.lt_of_mul_lt_mul_right k2 (Int.le_of_lt hD)
      exact ⟨by simp; omega, ctn_sp0 h0 h1⟩
theorem ins_of {f d lo f' d' lo' N D : Int} (hD : 0 < D) (h0 : 0 ≤ N) (h1 : N ≤ D) (h : InC f d lo N D) (h' : InC f' d' lo' N D) : insB f d lo f' d' lo' = true := by
  obtain ⟨a1, a2⟩ := ctn_pix hD h0 h1 h
  obtain ⟨b1, b2⟩ := ctn_pix hD h0 h1 h'
  have p1 := spMeet_pos sp0_pos (pixX_pos f d lo)
  have p2 := spMeet_pos p1 (pixX_pos f' d' lo')
  rw [insB, a1, b1, ctn_non hD p2.1 p2.2 (ctn_meet (ctn_meet (ctn_sp0 h0 h1) a2) b2)]
  rfl
/-- Whether a segment meets the pixel of a point. -/
def ipB (a b p : Pn) : Bool := okB a.1 a.2 && okB b.1 b.2 && okB p.1 p.2 && insB (2 * a.1) (2 * (b.1 - a.1)) (2 * p.1 - 1) (2 * a.2) (2 * (b.2 - a.2)) (2 * p.2 - 1)
theorem ip_of {a b p : Pn} {N D : Int} (ha : bd2 a) (hb : bd2 b) (hp : bd2 p) (hD : 0 < D) (h0 : 0 ≤ N) (h1 : N ≤ D)
    (hx : (2 * p.1 - 1) * D ≤ 2 * (a.1 * D + (b.1 - a.1) * N) ∧ 2 * (a.1 * D + (b.1 - a.1) * N) < (2 * p.1 + 1) * D)
    (hy : (2 * p.2 - 1) * D ≤ 2 * (a.2 * D + (b.2 - a.2) * N) ∧ 2 * (a.2 * D + (b.2 - a.2) * N) < (2 * p.2 + 1) * D) : ipB a b p = true := by
  rw [ipB, bd2_ok ha, bd2_ok hb, bd2_ok hp, Bool.true_and, Bool.true_and, Bool.true_and]
  refine ins_of hD h0 h1 ?_ ?_
  · have e : 2 * a.1 * D + 2 * (b.1 - a.1) * N = 2 * (a.1 * D + (b.1 - a.1) * N) := by grind
    have e2 : (2 * p.1 - 1 + 2) * D = (2 * p.1 + 1) * D := by grind
    unfold InC
    rw [e, e2]
    exact hx
  · have e : 2 * a.2 * D + 2 * (b.2 - a.2) * N = 2 * (a.2 * D + (b.2 - a.2) * N) := by grind
    have e2 : (2 * p.2 - 1 + 2) * D = (2 * p.2 + 1) * D := by grind
    unfold InC
    rw [e, e2]
    exact hy
/-- A middle of two numbers, rounded, lies between the same bounds. -/
theorem mid_rnd {x y N D B r : Int} (hx : -B ≤ x ∧ x ≤ B) (hy : -B ≤ y ∧ y ≤ B) (hD : 0 < D) (h0 : 0 ≤ N) (h1 : N ≤ D) (h : (2 * r - 1) * D ≤ 2 * (x * D + (y - x) * N) ∧ 2 * (x * D + (y - x) * N) < (2 * r + 1) * D) : -B ≤ r ∧ r ≤ B := by
  have e : x * D + (y - x) * N = x * (D - N) + y * N := by grind
  rw [e] at h
  have a1 : x * (D - N) ≤ B * (D - N) := Int.mul_le_mul_of_nonneg_right hx.2 (by omega)
  have a2 : y * N ≤ B * N := Int.mul_le_mul_of_nonneg_right hy.2 h0
  have a3 : -B * (D - N) ≤ x * (D - N) := Int.mul_le_mul_of_nonneg_right hx.1 (by omega)
  have a4 : -B * N ≤ y * N := Int.mul_le_mul_of_nonneg_right hy.1 h0
  have e1 : B * (D - N) + B * N = B * D := by grind
  have e2 : -B * (D - N) + -B * N = -B * D := by grind
  have k1 : (2 * r - 1) * D ≤ (2 * B) * D := by have : 2 * B * D = 2 * (B * D) := by grind
                                                omega
  have k2 : (2 * -B) * D < (2 * r + 1) * D := by have : 2 * -B * D = 2 * (-B * D) := by grind
                                                 omega
  have m1 := Int.le_of_mul_le_mul_right k1 hD
  have m2 := Int.lt_of_mul_lt_mul_right k2 (Int.le_of_lt hD)
  omega
theorem crs_in {x y n d : Int} (hd : d ≠ 0) : ∃ N D : Int, 0 < D ∧ ((d < 0 ∧ N = -n ∧ D = -d) ∨ (0 < d ∧ N = n ∧ D = d)) ∧ (2 * crs x y n d - 1) * D ≤ 2 * (x * D + (y - x) * N) ∧ 2 * (x * D + (y - x) * N) < (2 * crs x y n d + 1) * D := by
  unfold crs
  split
  · exact ⟨-n, -d, by omega, .inl ⟨by assumption, rfl, rfl⟩, (rnd_iff (by omega)).1 rfl⟩
  · exact ⟨n, d, by omega, .inr ⟨by omega, rfl, rfl⟩, (rnd_iff (by omega)).1 rfl⟩
/-- The rounded crossing lies in a pixel of the first segment. -/
theorem cross_pix {a b c d : Pn} (ha : bd2 a) (hb : bd2 b) (hs : strictM a b c d = true) : bd2 (crP a b c d) ∧ ipB a b (crP a b c d) = true := by
  have hD := strict_den hs
  have hs2 := (strict_iff.1 hs).2
  rw [← crN_tn a c d] at hs2
  have e := crD_tn a b c d
  rw [← crN_tn a c d] at e
  obtain ⟨N, D, h0, h1, hx⟩ := crs_in (x := a.1) (y := b.1) (n := crN a c d) hD
  obtain ⟨N', D', _, h1', hy⟩ := crs_in (x := a.2) (y := b.2) (n := crN a c d) hD
  obtain rfl : N' = N := by omega
  obtain rfl : D' = D := by omega
  have n0 : 0 ≤ N' ∧ N' ≤ D' := by omega
  have m1 := mid_rnd ha.1 hb.1 h0 n0.1 n0.2 hx
  have m2 := mid_rnd ha.2 hb.2 h0 n0.1 n0.2 hy
  have hp : bd2 (crP a b c d) := ⟨m1, m2⟩
  exact ⟨hp, ip_of ha hb hp h0 n0.1 n0.2 hx hy⟩
/-- A point of a segment lies in its own pixel. -/
theorem on_pix {a b p : Pn} (ha : bd2 a) (hb : bd2 b) (h : on2 a b p = true) : bd2 p ∧ ipB a b p = true := by
  obtain ⟨ht, hx, hy⟩ := on2_iff.1 h
  have hp : bd2 p := by
    obtain ⟨⟨a1, a2⟩, a3, a4⟩ := ha
    obtain ⟨⟨b1, b2⟩, b3, b4⟩ := hb
    refine ⟨⟨?_, ?_⟩, ?_, ?_⟩ <;> omega
  have ht' : (b.1 - a.1) * (p.2 - a.2) = (b.2 - a.2) * (p.1 - a.1) := by simp only [tn, trn] at ht; omega
  have key : ∀ N D : Int, 0 < D → 0 ≤ N → N ≤ D → a.1 * D + (b.1 - a.1) * N = p.1 * D → a.2 * D + (b.2 - a.2) * N = p.2 * D → ipB a b p = true := by
    intro N D h0 h1 h2 e1 e2
    refine ip_of ha hb hp h0 h1 h2 ?_ ?_
    · rw [e1]
      have g1 : (2 * p.1 - 1) * D = 2 * (p.1 * D) - D := by grind
      have g2 : (2 * p.1 + 1) * D = 2 * (p.1 * D) + D := by grind
      omega
    · rw [e2]
      have g1 : (2 * p.2 - 1) * D = 2 * (p.2 * D) - D := by grind
      have g2 : (2 * p.2 + 1) * D = 2 * (p.2 * D) + D := by grind
      omega
  refine ⟨hp, ?_⟩
  rcases Int.lt_trichotomy a.1 b.1 with h1 | h1 | h1
  · exact key (p.1 - a.1) (b.1 - a.1) (by omega) (by omega) (by omega) (by grind) (by grind)
  · rcases Int.lt_trichotomy a.2 b.2 with h2 | h2 | h2
    · exact key (p.2 - a.2) (b.2 - a.2) (by omega) (by omega) (by omega) (by grind) (by grind)
    · have e1 : p.1 = a.1 := by omega
      have e2 : p.2 = a.2 := by omega
      exact key 0 1 (by omega) (by omega) (by omega) (by omega) (by omega)
    · exact key (a.2 - p.2) (a.2 - b.2) (by omega) (by omega) (by omega) (by grind) (by grind)
  · exact key (a.1 - p.1) (a.1 - b.1) (by omega) (by omega) (by omega) (by grind) (by grind)
end Go.Proofs.Ytoghpiinegfddaa
