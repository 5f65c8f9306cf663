/- How two segments meet: plain law, the program's way. -/
import Derived.Test.YtcigocejgmafjaaOn
import Derived.Test.YtcigocejgmafjaaReg3
namespace Go.Proofs.Ytcigocejgmafjaa
open Go Go.RowKit
set_option linter.unusedVariables false
set_option linter.unusedSimpArgs false
set_option maxRecDepth 100000
set_option maxHeartbeats 4000000
open Go.RowKit
set_option linter.unusedVariables false
set_option linter.unusedSimpArgs false

abbrev Pn := Int × Int
def tn (a b c : Pn) : Int := trn a.1 a.2 b.1 b.2 c.1 c.2
def on2 (a b p : Pn) : Bool := onB a.1 a.2 b.1 b.2 p.1 p.2
/-- A point that is valid; the order of points by X, then Y, as one number. -/
def bd2 (p : Pn) : Prop := (-262144 ≤ p.1 ∧ p.1 ≤ 262144) ∧ -262144 ≤ p.2 ∧ p.2 ≤ 262144
def key (p : Pn) : Int := p.1 * 1048576 + p.2
theorem key_inj {p q : Pn} (hp : bd2 p) (hq : bd2 q) (h : key p = key q) : p = q := by
 obtain ⟨x, y⟩ := p; obtain ⟨x', y'⟩ := q
 unfold bd2 key at *
 simp only at *
 have : x = x' := by omega
 subst this
 have : y = y' := by omega
 rw [this]
theorem on2_iff {a b p : Pn} : on2 a b p = true ↔ tn a b p = 0 ∧ (min a.1 b.1 ≤ p.1 ∧ p.1 ≤ max a.1 b.1) ∧ min a.2 b.2 ≤ p.2 ∧ p.2 ≤ max a.2 b.2 := by
 simp only [on2, onB, tn, Bool.and_eq_true, beq_iff_eq, decide_eq_true_eq]
 constructor
 ·rintro ⟨⟨⟨⟨h1, h2⟩, h3⟩, h4⟩, h5⟩; exact ⟨h1, ⟨h2, h3⟩, h4, h5⟩
 ·rintro ⟨h1, ⟨h2, h3⟩, h4, h5⟩; exact ⟨⟨⟨⟨h1, h2⟩, h3⟩, h4⟩, h5⟩

theorem mul0 {a b : Int} (h : a * b = 0) : a = 0 ∨ b = 0 := Int.mul_eq_zero.1 h
/-- Parallels. -/
theorem par {x1 x2 y1 y2 u1 u2 : Int} (hx : x1 * u2 - x2 * u1 = 0) (hy : y1 * u2 - y2 * u1 = 0) (hu : ¬ (u1 = 0 ∧ u2 = 0)) : x1 * y2 - x2 * y1 = 0 := by
 have e1 : u1 * (x1 * y2 - x2 * y1) = 0 := by grind
 have e2 : u2 * (x1 * y2 - x2 * y1) = 0 := by grind
 rcases mul0 e1 with h | h
 ·rcases mul0 e2 with h' | h'
  ·exact absurd ⟨h, h'⟩ hu
  ·exact h'
 ·exact h
/-- Two different points on both segments: all lies on one line. -/
theorem two_on {a b c d p q : Pn} (hp : on2 a b p = true) (hp' : on2 c d p = true) (hq : on2 a b q = true) (hq' : on2 c d q = true) (hne : p ≠ q) :
  tn a b c = 0 ∧ tn a b d = 0 ∧ tn c d a = 0 ∧ tn c d b = 0 := by
 rw [on2_iff] at hp hp' hq hq'
 obtain ⟨a1, a2⟩ := a; obtain ⟨b1, b2⟩ := b; obtain ⟨c1, c2⟩ := c; obtain ⟨d1, d2⟩ := d; obtain ⟨p1, p2⟩ := p; obtain ⟨q1, q2⟩ := q
 simp only [tn, trn] at *
 have hu : ¬ (q1 - p1 = 0 ∧ q2 - p2 = 0) := fun h => hne (by rw [show p1 = q1 by omega, show p2 = q2 by omega])
 have hab : (b1 - a1) * (q2 - p2) - (b2 - a2) * (q1 - p1) = 0 := by grind
 have hcd : (d1 - c1) * (q2 - p2) - (d2 - c2) * (q1 - p1) = 0 := by grind
 have hpar := par hab hcd hu
 -- c - p and a - p are along u, too
 have hcp : (c1 - p1) * (q2 - p2) - (c2 - p2) * (q1 - p1) = 0 := by
  by_cases hz : d1 - c1 = 0 ∧ d2 - c2 = 0
  ·have : p1 = q1 ∧ p2 = q2 := by omega
   exact absurd (by rw [this.1, this.2]) hne
  ·have h1 : (c1 - p1) * (d2 - c2) - (c2 - p2) * (d1 - c1) = 0 := by grind
   have h2 : (q1 - p1) * (d2 - c2) - (q2 - p2) * (d1 - c1) = 0 := by grind
   exact par h1 h2 hz
 have hap : (a1 - p1) * (q2 - p2) - (a2 - p2) * (q1 - p1) = 0 := by
  by_cases hz : b1 - a1 = 0 ∧ b2 - a2 = 0
  ·have : p1 = q1 ∧ p2 = q2 := by omega
   exact absurd (by rw [this.1, this.2]) hne
  ·have h1 : (a1 - p1) * (b2 - a2) - (a2 - p2) * (b1 - a1) = 0 := by grind
   have h2 : (q1 - p1) * (b2 - a2) - (q2 - p2) * (b1 - a1) = 0 := by grind
   exact par h1 h2 hz
 have k1 := par hab hcp hu
 have k2 := par hcd hap hu
 refine ⟨?_, ?_, ?_, ?_⟩ <;> grind
/-- Points on a line: between means between in the order. -/
theorem on_key {a b p : Pn} (ha : bd2 a) (hb : bd2 b) (hp : bd2 p) (h : tn a b p = 0) : on2 a b p = true ↔ min (key a) (key b) ≤ key p ∧ key p ≤ max (key a) (key b) := by
 rw [on2_iff]
 obtain ⟨a1, a2⟩ := a; obtain ⟨b1, b2⟩ := b; obtain ⟨p1, p2⟩ := p
 simp only [tn, trn, key, bd2] at *
 constructor
 ·rintro ⟨_, h2, h3⟩
  rcases Int.lt_trichotomy a1 b1 with hx | hx | hx
  ·by_cases e : p1 = a1
   ·subst e
    have : (b1 - p1) * (p2 - a2) = 0 := by grind
    rcases mul0 this with h4 | h4 <;> omega
   ·by_cases e : p1 = b1
    ·subst e
     have : (p1 - a1) * (p2 - b2) = 0 := by grind
     rcases mul0 this with h4 | h4 <;> omega
    ·omega
  ·omega
  ·by_cases e : p1 = a1
   ·subst e
    have : (b1 - p1) * (p2 - a2) = 0 := by grind
    rcases mul0 this with h4 | h4 <;> omega
   ·by_cases e : p1 = b1
    ·subst e
     have : (p1 - a1) * (p2 - b2) = 0 := by grind
     rcases mul0 this with h4 | h4 <;> omega
    ·omega
 ·intro h2
  have hx : min a1 b1 ≤ p1 ∧ p1 ≤ max a1 b1 := by omega
  refine ⟨h, hx, ?_⟩
  rcases Int.lt_trichotomy a1 b1 with hl | hl | hl
  ·have k1 : 0 ≤ p1 - a1 := by omega
   have k2 : p1 - a1 ≤ b1 - a1 := by omega
   have e : (b1 - a1) * (p2 - a2) = (b2 - a2) * (p1 - a1) := by omega
   by_cases hy : a2 ≤ b2
   ·have g1 : 0 ≤ (b2 - a2) * (p1 - a1) := Int.mul_nonneg (by omega) k1
    have g2 : (b2 - a2) * (p1 - a1) ≤ (b2 - a2) * (b1 - a1) := Int.mul_le_mul_of_nonneg_left k2 (by omega)
    have g3 : (b1 - a1) * (p2 - a2) ≤ (b1 - a1) * (b2 - a2) := by rw [e, Int.mul_comm (b1 - a1)]; exact g2
    have g4 : (b1 - a1) * 0 ≤ (b1 - a1) * (p2 - a2) := by rw [e]; simpa using g1
    have := Int.le_of_mul_le_mul_left g3 (by omega)
    have := Int.le_of_mul_le_mul_left g4 (by omega)
    omega
   ·have g1 : 0 ≤ (a2 - b2) * (p1 - a1) := Int.mul_nonneg (by omega) k1
    have g2 : (a2 - b2) * (p1 - a1) ≤ (a2 - b2) * (b1 - a1) := Int.mul_le_mul_of_nonneg_left k2 (by omega)
    have e' : (b1 - a1) * (a2 - p2) = (a2 - b2) * (p1 - a1) := by grind
    have g3 : (b1 - a1) * (a2 - p2) ≤ (b1 - a1) * (a2 - b2) := by rw [e', Int.mul_comm (b1 - a1)]; exact g2
    have g4 : (b1 - a1) * 0 ≤ (b1 - a1) * (a2 - p2) := by rw [e']; simpa using g1
    have := Int.le_of_mul_le_mul_left g3 (by omega)
    have := Int.le_of_mul_le_mul_left g4 (by omega)
    omega
  ·omega
  ·have k1 : 0 ≤ a1 - p1 := by omega
   have k2 : a1 - p1 ≤ a1 - b1 := by omega
   by_cases hy : a2 ≤ b2
   ·have g1 : 0 ≤ (b2 - a2) * (a1 - p1) := Int.mul_nonneg (by omega) k1
    have g2 : (b2 - a2) * (a1 - p1) ≤ (b2 - a2) * (a1 - b1) := Int.mul_le_mul_of_nonneg_left k2 (by omega)
    have e' : (a1 - b1) * (p2 - a2) = (b2 - a2) * (a1 - p1) := by grind
    have g3 : (a1 - b1) * (p2 - a2) ≤ (a1 - b1) * (b2 - a2) := by rw [e', Int.mul_comm (a1 - b1)]; exact g2
    have g4 : (a1 - b1) * 0 ≤ (a1 - b1) * (p2 - a2) := by rw [e']; simpa using g1
    have := Int.le_of_mul_le_mul_left g3 (by omega)
    have := Int.le_of_mul_le_mul_left g4 (by omega)
    omega
   ·have g1 : 0 ≤ (a2 - b2) * (a1 - p1) := Int.mul_nonneg (by omega) k1
    have g2 : (a2 - b2) * (a1 - p1) ≤ (a2 - b2) * (a1 - b1) := Int.mul_le_mul_of_nonneg_left k2 (by omega)
    have e' : (a1 - b1) * (a2 - p2) = (a2 - b2) * (a1 - p1) := by grind
    have g3 : (a1 - b1) * (a2 - p2) ≤ (a1 - b1) * (a2 - b2) := by rw [e', Int.mul_comm (a1 - b1)]; exact g2
    have g4 : (a1 - b1) * 0 ≤ (a1 - b1) * (a2 - p2) := by rw [e']; simpa using g1
    have := Int.le_of_mul_le_mul_left g3 (by omega)
    have := Int.le_of_mul_le_mul_left g4 (by omega)
    omega
def cmpP (p q : Pn) : Int := if p.1 = q.1 then sgn (p.2 - q.2) else sgn (p.1 - q.1)
theorem sgn3 (n : Int) : (n < 0 ∧ sgn n = -1) ∨ (n = 0 ∧ sgn n = 0) ∨ (0 < n ∧ sgn n = 1) := by unfold sgn; split <;> (try split) <;> omega
theorem cmpP_key {p q : Pn} (hp : bd2 p) (hq : bd2 q) : cmpP p q = sgn (key p - key q) := by
 obtain ⟨x, y⟩ := p; obtain ⟨x', y'⟩ := q
 unfold bd2 cmpP key at *
 simp only at *
 have h1 := sgn3 (y - y'); have h2 := sgn3 (x - x'); have h3 := sgn3 (x * 1048576 + y - (x' * 1048576 + y'))
 split <;> omega
def lesP (a b : Pn) : Pn := if cmpP a b ≤ 0 then a else b
def grtP (a b : Pn) : Pn := if 0 ≤ cmpP a b then a else b
theorem lesP_key {p q : Pn} (hp : bd2 p) (hq : bd2 q) : key (lesP p q) = min (key p) (key q) ∧ bd2 (lesP p q) ∧ (lesP p q = p ∨ lesP p q = q) := by
 unfold lesP; rw [cmpP_key hp hq]
 have := sgn3 (key p - key q)
 split
 ·exact ⟨by omega, hp, .inl rfl⟩
 ·exact ⟨by omega, hq, .inr rfl⟩
theorem grtP_key {p q : Pn} (hp : bd2 p) (hq : bd2 q) : key (grtP p q) = max (key p) (key q) ∧ bd2 (grtP p q) ∧ (grtP p q = p ∨ grtP p q = q) := by
 unfold grtP; rw [cmpP_key hp hq]
 have := sgn3 (key p - key q)
 split
 ·exact ⟨by omega, hp, .inl rfl⟩
 ·exact ⟨by omega, hq, .inr rfl⟩
def flatM (a b c d : Pn) : Bool := (sgn (tn a b c) == 0) && (sgn (tn a b d) == 0) && (sgn (tn c d a) == 0) && (sgn (tn c d b) == 0)
def strictM (a b c d : Pn) : Bool := decide (sgn (tn a b c) * sgn (tn a b d) < 0) && decide (sgn (tn c d a) * sgn (tn c d b) < 0)
def lowM (a b c d : Pn) : Pn := grtP (lesP a b) (lesP c d)
def highM (a b c d : Pn) : Pn := lesP (grtP a b) (grtP c d)
/-- How two segments meet, and a point: as the program finds it. -/
def meetI (a b c d : Pn) : Int × Pn :=
 if flatM a b c d = true then
  (if cmpP (lowM a b c d) (highM a b c d) = 0 then (1, lowM a b c d) else if cmpP (lowM a b c d) (highM a b c d) = -1 then (3, lowM a b c d) else (0, (0, 0)))
 else if strictM a b c d = true then (2, (0, 0))
 else if on2 a b c = true then (1, c) else if on2 a b d = true then (1, d) else if on2 c d a = true then (1, a) else if on2 c d b = true then (1, b) else (0, (0, 0))
/-- The ends that lie on both. -/
def bothM (a b c d p : Pn) : Bool := on2 a b p && on2 c d p
def addE (a b c d : Pn) (out : List Pn) (p : Pn) : List Pn := if (!(out.contains p) && bothM a b c d p) = true then out ++ [p] else out
def endsM (a b c d : Pn) : List Pn := addE a b c d (addE a b c d (addE a b c d (addE a b c d [] a) b) c) d
def meetS (a b c d : Pn) : Int := if (endsM a b c d).length = 0 then (if strictM a b c d = true then 2 else 0) else if (endsM a b c d).length = 1 then 1 else 3

theorem addE_mem {a b c d p q : Pn} {out : List Pn} : q ∈ addE a b c d out p ↔ q ∈ out ∨ (q = p ∧ bothM a b c d p = true) := by
 unfold addE
 split
 ·rename_i h
  simp only [Bool.and_eq_true] at h
  simp [h.2]
 ·rename_i h
  simp only [Bool.and_eq_true, Bool.not_eq_true', not_and, Bool.not_eq_true] at h
  constructor
  ·exact .inl
  ·rintro (h1 | ⟨rfl, h1⟩)
   ·exact h1
   ·by_cases hc : out.contains q = true
    ·simpa using hc
    ·rw [h (by simpa using hc)] at h1; cases h1
theorem addE_nodup {a b c d p : Pn} {out : List Pn} (h : out.Nodup) : (addE a b c d out p).Nodup := by
 unfold addE
 split
 ·rename_i h'
  simp only [Bool.and_eq_true, Bool.not_eq_true'] at h'
  rw [List.nodup_append]
  exact ⟨h, by simp, fun x hx y hy e => by simp at hy; subst hy; subst e; have := h'.1; simp at this; exact this hx⟩
 ·exact h
theorem endsM_mem {a b c d q : Pn} : q ∈ endsM a b c d ↔ (q = a ∨ q = b ∨ q = c ∨ q = d) ∧ bothM a b c d q = true := by
 unfold endsM
 simp only [addE_mem, List.not_mem_nil, false_or]
 constructor
 ·rintro (((⟨rfl, h⟩ | ⟨rfl, h⟩) | ⟨rfl, h⟩) | ⟨rfl, h⟩)
  ·exact ⟨.inl rfl, h⟩
  ·exact ⟨.inr (.inl rfl), h⟩
  ·exact ⟨.inr (.inr (.inl rfl)), h⟩
  ·exact ⟨.inr (.inr (.inr rfl)), h⟩
 ·rintro ⟨rfl | rfl | rfl | rfl, h⟩
  ·exact .inl (.inl (.inl ⟨rfl, h⟩))
  ·exact .inl (.inl (.inr ⟨rfl, h⟩))
  ·exact .inl (.inr ⟨rfl, h⟩)
  ·exact .inr ⟨rfl, h⟩
theorem endsM_nodup (a b c d : Pn) : (endsM a b c d).Nodup := addE_nodup (addE_nodup (addE_nodup (addE_nodup List.nodup_nil)))
theorem len0 {l : List Pn} (h : ∀ q, q ∉ l) : l.length = 0 := by
 cases l with
 | nil => rfl
 | cons a r => exact absurd (List.mem_cons_self) (h a)
theorem len1 {l : List Pn} {p : Pn} (hn : l.Nodup) (hp : p ∈ l) (h : ∀ q ∈ l, q = p) : l = [p] := by
 match l, hn, hp, h with
 | [x], _, _, h => rw [h x (by simp)]
 | x :: y :: r, hn, _, h =>
  have h1 := h x (by simp); have h2 := h y (by simp)
  rw [h1, h2] at hn
  simp at hn
theorem len2 {l : List Pn} {p q : Pn} (hp : p ∈ l) (hq : q ∈ l) (hne : p ≠ q) : ¬ l.length = 0 ∧ ¬ l.length = 1 := by
 match l, hp, hq with
 | [x], hp, hq => simp at hp hq; exact absurd (hp.trans hq.symm) hne
 | x :: y :: r, _, _ => simp
theorem on_end1 (a b : Pn) : on2 a b a = true := by rw [on2_iff]; simp only [tn, trn]; refine ⟨by grind, ?_⟩; omega
theorem on_end2 (a b : Pn) : on2 a b b = true := by rw [on2_iff]; simp only [tn, trn]; refine ⟨by grind, ?_⟩; omega
theorem sgn_eq0 {n : Int} : (sgn n == 0) = true ↔ n = 0 := by have := sgn3 n; simp; omega
theorem sgn_mul_neg {m n : Int} : sgn m * sgn n < 0 ↔ (m < 0 ∧ 0 < n) ∨ (0 < m ∧ n < 0) := by
 rcases sgn3 m with ⟨h1, e1⟩ | ⟨h1, e1⟩ | ⟨h1, e1⟩ <;> rcases sgn3 n with ⟨h2, e2⟩ | ⟨h2, e2⟩ | ⟨h2, e2⟩ <;> rw [e1, e2] <;> omega

/-- Both ways find the same. -/
theorem meet_both {a b c d : Pn} (ha : bd2 a) (hb : bd2 b) (hc : bd2 c) (hd : bd2 d) :
  (meetI a b c d).1 = meetS a b c d ∧ ((meetI a b c d).1 = 1 → endsM a b c d = [(meetI a b c d).2]) := by
 unfold meetI meetS
 by_cases hf : flatM a b c d = true
 ·rw [if_pos hf]
  simp only [flatM, Bool.and_eq_true, sgn_eq0] at hf
  obtain ⟨⟨⟨f1, f2⟩, f3⟩, f4⟩ := hf
  have f5 : tn a b a = 0 := by simp only [tn, trn]; grind
  have f6 : tn a b b = 0 := by simp only [tn, trn]; grind
  have f7 : tn c d c = 0 := by simp only [tn, trn]; grind
  have f8 : tn c d d = 0 := by simp only [tn, trn]; grind
  obtain ⟨l1, l2, l3⟩ := lesP_key ha hb
  obtain ⟨l4, l5, l6⟩ := lesP_key hc hd
  obtain ⟨g1, g2, g3⟩ := grtP_key ha hb
  obtain ⟨g4, g5, g6⟩ := grtP_key hc hd
  obtain ⟨m1, m2, m3⟩ := grtP_key l2 l5
  obtain ⟨m4, m5, m6⟩ := lesP_key g2 g5
  have hns : strictM a b c d = false := by simp only [strictM, f1, f3]; simp [sgn]
  have key1 : ∀ q, (q = a ∨ q = b ∨ q = c ∨ q = d) → (bothM a b c d q = true ↔ key (lowM a b c d) ≤ key q ∧ key q ≤ key (highM a b c d)) := by
   intro q hq
   have hqb : bd2 q := by rcases hq with rfl | rfl | rfl | rfl <;> assumption
   have t1 : tn a b q = 0 := by rcases hq with rfl | rfl | rfl | rfl <;> assumption
   have t2 : tn c d q = 0 := by rcases hq with rfl | rfl | rfl | rfl <;> assumption
   simp only [bothM, Bool.and_eq_true]
   rw [on_key ha hb hqb t1, on_key hc hd hqb t2]
   show _ ↔ key (grtP (lesP a b) (lesP c d)) ≤ key q ∧ key q ≤ key (lesP (grtP a b) (grtP c d))
   omega
  have hlow : lowM a b c d = a ∨ lowM a b c d = b ∨ lowM a b c d = c ∨ lowM a b c d = d := by
   unfold lowM
   rcases m3 with e | e <;> rw [e]
   ·rcases l3 with e | e <;> rw [e] <;> simp
   ·rcases l6 with e | e <;> rw [e] <;> simp
  have hhigh : highM a b c d = a ∨ highM a b c d = b ∨ highM a b c d = c ∨ highM a b c d = d := by
   unfold highM
   rcases m6 with e | e <;> rw [e]
   ·rcases g3 with e | e <;> rw [e] <;> simp
   ·rcases g6 with e | e <;> rw [e] <;> simp
  have hlb : bd2 (lowM a b c d) := m2
  have hhb : bd2 (highM a b c d) := m5
  rw [cmpP_key hlb hhb]
  rcases sgn3 (key (lowM a b c d) - key (highM a b c d)) with ⟨k1, e⟩ | ⟨k1, e⟩ | ⟨k1, e⟩
  ·rw [e, if_neg (by omega), if_pos rfl]
   have h1 : lowM a b c d ∈ endsM a b c d := endsM_mem.2 ⟨hlow, (key1 _ hlow).2 (by omega)⟩
   have h2 : highM a b c d ∈ endsM a b c d := endsM_mem.2 ⟨hhigh, (key1 _ hhigh).2 (by omega)⟩
   obtain ⟨n1, n2⟩ := len2 h1 h2 (fun e => by rw [e] at k1; omega)
   rw [if_neg n1, if_neg n2]
   exact ⟨rfl, fun h => absurd h (by simp)⟩
  ·rw [e, if_pos rfl]
   have h1 : lowM a b c d ∈ endsM a b c d := endsM_mem.2 ⟨hlow, (key1 _ hlow).2 (by omega)⟩
   have hl := len1 (endsM_nodup a b c d) h1 fun q hq => by
    obtain ⟨hq1, hq2⟩ := endsM_mem.1 hq
    have hqb : bd2 q := by rcases hq1 with rfl | rfl | rfl | rfl <;> assumption
    have := (key1 q hq1).1 hq2
    exact key_inj hqb hlb (by omega)
   rw [hl]
   exact ⟨rfl, fun _ => rfl⟩
  ·rw [e, if_neg (by omega), if_neg (by omega)]
   have hl := len0 (l := endsM a b c d) fun q hq => by
    obtain ⟨hq1, hq2⟩ := endsM_mem.1 hq
    have := (key1 q hq1).1 hq2
    omega
   rw [if_pos hl, hns]
   exact ⟨rfl, fun h => absurd h (by simp)⟩
 ·rw [if_neg hf]
  have huniq : ∀ p q, bothM a b c d p = true → bothM a b c d q = true → p = q := by
   intro p q hp hq
   simp only [bothM, Bool.and_eq_true] at hp hq
   by_cases e : p = q
   ·exact e
   ·obtain ⟨t1, t2, t3, t4⟩ := two_on hp.1 hp.2 hq.1 hq.2 e
    exact absurd (by simp only [flatM, Bool.and_eq_true, sgn_eq0]; exact ⟨⟨⟨t1, t2⟩, t3⟩, t4⟩) hf
  have one : ∀ p, (p = a ∨ p = b ∨ p = c ∨ p = d) → bothM a b c d p = true → endsM a b c d = [p] := fun p hp hb =>
   len1 (endsM_nodup a b c d) (endsM_mem.2 ⟨hp, hb⟩) fun q hq => huniq q p (endsM_mem.1 hq).2 hb
  by_cases hs : strictM a b c d = true
  ·rw [if_pos hs]
   have hs' := hs
   simp only [strictM, Bool.and_eq_true, decide_eq_true_eq, sgn_mul_neg] at hs'
   have hl := len0 (l := endsM a b c d) fun q hq => by
    obtain ⟨hq1, hq2⟩ := endsM_mem.1 hq
    simp only [bothM, Bool.and_eq_true, on2_iff] at hq2
    rcases hq1 with rfl | rfl | rfl | rfl <;> omega
   rw [if_pos hl, if_pos hs]
   exact ⟨rfl, fun h => absurd h (by simp)⟩
  ·rw [if_neg hs]
   by_cases h1 : on2 a b c = true
   ·rw [if_pos h1, one c (by simp) (by simp [bothM, h1, on_end1])]
    exact ⟨rfl, fun _ => rfl⟩
   rw [if_neg h1]
   by_cases h2 : on2 a b d = true
   ·rw [if_pos h2, one d (by simp) (by simp [bothM, h2, on_end2])]
    exact ⟨rfl, fun _ => rfl⟩
   rw [if_neg h2]
   by_cases h3 : on2 c d a = true
   ·rw [if_pos h3, one a (by simp) (by simp [bothM, h3, on_end1])]
    exact ⟨rfl, fun _ => rfl⟩
   rw [if_neg h3]
   by_cases h4 : on2 c d b = true
   ·rw [if_pos h4, one b (by simp) (by simp [bothM, h4, on_end2])]
    exact ⟨rfl, fun _ => rfl⟩
   rw [if_neg h4]
   have hl := len0 (l := endsM a b c d) fun q hq => by
    obtain ⟨hq1, hq2⟩ := endsM_mem.1 hq
    simp only [bothM, Bool.and_eq_true] at hq2
    rcases hq1 with rfl | rfl | rfl | rfl
    ·exact h3 hq2.2
    ·exact h4 hq2.2
    ·exact h1 hq2.1
    ·exact h2 hq2.1
   rw [if_pos hl, if_neg hs]
   exact ⟨rfl, fun h => absurd h (by simp)⟩
def apartM (a b c d : Pn) : Bool := decide (max a.1 b.1 < min c.1 d.1) || decide (max c.1 d.1 < min a.1 b.1) || decide (max a.2 b.2 < min c.2 d.2) || decide (max c.2 d.2 < min a.2 b.2)
/-- A number between: weights of both signs. -/
theorem mid_lt {s t x y z : Int} (hs : s < 0) (ht : 0 < t) (hx : x < z) (hy : y < z) : t * x - s * y < (t - s) * z := by
 have h1 : t * x < t * z := Int.mul_lt_mul_of_pos_left hx ht
 have h2 : -s * y < -s * z := Int.mul_lt_mul_of_pos_left hy (by omega)
 grind
theorem mid_le {s t x y z : Int} (hs : s < 0) (ht : 0 < t) (hx : z ≤ x) (hy : z ≤ y) : (t - s) * z ≤ t * x - s * y := by
 have h1 : t * z ≤ t * x := Int.mul_le_mul_of_nonneg_left hx (by omega)
 have h2 : -s * z ≤ -s * y := Int.mul_le_mul_of_nonneg_left hy (by omega)
 grind
/-- The common point, as a middle of the ends of each: no box is beside the other. -/
theorem cross_mid {t1 t2 t3 t4 x y z u m : Int} (h12 : (t1 < 0 ∧ 0 < t2) ∨ (0 < t1 ∧ t2 < 0)) (h34 : (t3 < 0 ∧ 0 < t4) ∨ (0 < t3 ∧ t4 < 0))
  (e : (t4 * x - t3 * y) * (t2 - t1) = (t2 * z - t1 * u) * (t4 - t3)) : ¬ (x < m ∧ y < m ∧ m ≤ z ∧ m ≤ u) := by
 rintro ⟨h1, h2, h3, h4⟩
 -- signs made plain
 have key : ∀ s t s' t' : Int, s < 0 → 0 < t → s' < 0 → 0 < t' → (t' * x - s' * y) * (t - s) = (t * z - s * u) * (t' - s') → False := by
  intro s t s' t' a1 a2 a3 a4 e
  have k1 := mid_lt a3 a4 h1 h2
  have k2 := mid_le a1 a2 h3 h4
  have k3 : (t' * x - s' * y) * (t - s) < ((t' - s') * m) * (t - s) := Int.mul_lt_mul_of_pos_right k1 (by omega)
  have k4 : ((t - s) * m) * (t' - s') ≤ (t * z - s * u) * (t' - s') := Int.mul_le_mul_of_nonneg_right k2 (by omega)
  have k5 : ((t' - s') * m) * (t - s) = ((t - s) * m) * (t' - s') := by grind
  omega
 rcases h12 with ⟨a1, a2⟩ | ⟨a1, a2⟩ <;> rcases h34 with ⟨a3, a4⟩ | ⟨a3, a4⟩
 ·exact key t1 t2 t3 t4 a1 a2 a3 a4 e
 ·exact key t1 t2 (-t3) (-t4) a1 a2 (by omega) (by omega) (by grind)
 ·exact key (-t1) (-t2) t3 t4 (by omega) (by omega) a3 a4 (by grind)
 ·exact key (-t1) (-t2) (-t3) (-t4) (by omega) (by omega) (by omega) (by omega) (by grind)
theorem apart_none {a b c d : Pn} (h : apartM a b c d = true) : meetS a b c d = 0 := by
 have hne : ∀ q, bothM a b c d q = false := by
  intro q
  cases hq : bothM a b c d q
  ·rfl
  ·simp only [bothM, Bool.and_eq_true, on2_iff] at hq
   simp only [apartM, Bool.or_eq_true, decide_eq_true_eq] at h
   omega
 have hl := len0 (l := endsM a b c d) fun q hq => by
  have := (endsM_mem.1 hq).2
  rw [hne] at this
  cases this
 unfold meetS
 rw [if_pos hl, if_neg]
 intro hs
 simp only [strictM, Bool.and_eq_true, decide_eq_true_eq, sgn_mul_neg] at hs
 obtain ⟨h1, h2⟩ := hs
 simp only [apartM, Bool.or_eq_true, decide_eq_true_eq] at h
 obtain ⟨a1, a2⟩ := a; obtain ⟨b1, b2⟩ := b; obtain ⟨c1, c2⟩ := c; obtain ⟨d1, d2⟩ := d
 simp only [tn] at h1 h2
 simp only at h
 have ex : (trn c1 c2 d1 d2 b1 b2 * a1 - trn c1 c2 d1 d2 a1 a2 * b1) * (trn a1 a2 b1 b2 d1 d2 - trn a1 a2 b1 b2 c1 c2) = (trn a1 a2 b1 b2 d1 d2 * c1 - trn a1 a2 b1 b2 c1 c2 * d1) * (trn c1 c2 d1 d2 b1 b2 - trn c1 c2 d1 d2 a1 a2) := by
  simp only [trn]; grind
 have ey : (trn c1 c2 d1 d2 b1 b2 * a2 - trn c1 c2 d1 d2 a1 a2 * b2) * (trn a1 a2 b1 b2 d1 d2 - trn a1 a2 b1 b2 c1 c2) = (trn a1 a2 b1 b2 d1 d2 * c2 - trn a1 a2 b1 b2 c1 c2 * d2) * (trn c1 c2 d1 d2 b1 b2 - trn c1 c2 d1 d2 a1 a2) := by
  simp only [trn]; grind
 rcases h with ((h | h) | h) | h
 ·exact cross_mid (m := min c1 d1) h1 h2 ex (by omega)
 ·exact cross_mid (m := min a1 b1) h2 h1 ex.symm (by omega)
 ·exact cross_mid (m := min c2 d2) h1 h2 ey (by omega)
 ·exact cross_mid (m := min a2 b2) h2 h1 ey.symm (by omega)

/-- Two edges that meet as those of a snapped region do: the program's test, the reference's. -/
def pairI (a b c d : Pn) : Bool :=
 if (a = c ∧ b = d) ∨ (a = d ∧ b = c) then true
 else if (meetI a b c d).1 = 1 then (decide ((meetI a b c d).2 = a) || decide ((meetI a b c d).2 = b)) && (decide ((meetI a b c d).2 = c) || decide ((meetI a b c d).2 = d))
 else decide ((meetI a b c d).1 = 0)
def pairS (a b c d : Pn) : Bool :=
 if apartM a b c d = true then true
 else if meetS a b c d = 2 then false
 else if meetS a b c d = 1 then !(decide (a ≠ c) && decide (a ≠ d) && decide (b ≠ c) && decide (b ≠ d))
 else if meetS a b c d = 3 then decide ((a = c ∧ b = d) ∨ (a = d ∧ b = c))
 else true
theorem meetS_cases (a b c d : Pn) : meetS a b c d = 0 ∨ meetS a b c d = 1 ∨ meetS a b c d = 2 ∨ meetS a b c d = 3 := by
 unfold meetS; split <;> (try split) <;> simp
theorem pair_same {a b c d : Pn} (ha : bd2 a) (hb : bd2 b) (hc : bd2 c) (hd : bd2 d) (hab : a ≠ b) (hcd : c ≠ d) : pairI a b c d = pairS a b c d := by
 obtain ⟨hk, hp⟩ := meet_both ha hb hc hd
 unfold pairI pairS
 by_cases hs : (a = c ∧ b = d) ∨ (a = d ∧ b = c)
 ·rw [if_pos hs]
  have h3 : meetS a b c d = 3 := by
   have m1 : a ∈ endsM a b c d := endsM_mem.2 ⟨by simp, by rcases hs with ⟨rfl, rfl⟩ | ⟨rfl, rfl⟩ <;> simp [bothM, on_end1, on_end2]⟩
   have m2 : b ∈ endsM a b c d := endsM_mem.2 ⟨by simp, by rcases hs with ⟨rfl, rfl⟩ | ⟨rfl, rfl⟩ <;> simp [bothM, on_end1, on_end2]⟩
   obtain ⟨n1, n2⟩ := len2 m1 m2 hab
   unfold meetS; rw [if_neg n1, if_neg n2]
  by_cases hap : apartM a b c d = true
  ·rw [if_pos hap]
  ·rw [if_neg hap, h3]; simp [hs]
 ·rw [if_neg hs, hk]
  by_cases hap : apartM a b c d = true
  ·rw [if_pos hap, apart_none hap]; simp
  ·rw [if_neg hap]
   rcases meetS_cases a b c d with e | e | e | e <;> rw [e]
   ·simp
   ·have he := hp (hk.trans e)
    simp only [if_pos, if_neg]
    generalize (meetI a b c d).2 = p at he
    have hpm : p ∈ endsM a b c d := by rw [he]; simp
    have share : ∀ q, (q = a ∨ q = b) → (q = c ∨ q = d) → q = p := fun q h1 h2 => by
     have : q ∈ endsM a b c d := endsM_mem.2 ⟨by rcases h1 with rfl | rfl <;> simp, by rcases h1 with rfl | rfl <;> rcases h2 with rfl | rfl <;> simp [bothM, on_end1, on_end2]⟩
     rw [he] at this
     simpa using this
    have s1 := share a (.inl rfl); have s2 := share b (.inr rfl)
    simp
    by_cases e1 : a = c
    ·have := s1 (.inl e1); subst this; simp [e1]
    ·by_cases e2 : a = d
     ·have := s1 (.inr e2); subst this; simp [e2]
     ·by_cases e3 : b = c
      ·have := s2 (.inl e3); subst this; simp [e3]
      ·by_cases e4 : b = d
       ·have := s2 (.inr e4); subst this; simp [e4]
       ·simp only [e1, e2, e3, e4]
        simp
        rintro (rfl | rfl)
        ·exact ⟨e1, e2⟩
        ·exact ⟨e3, e4⟩
   ·simp
   ·simp [hs]
abbrev pV (p : Pn) : Value := .agg #[.int .i64 p.1, .int .i64 p.2]
theorem bd2_wide {p : Pn} (h : bd2 p) : bdM p.1 ∧ bdM p.2 := by
 obtain ⟨⟨h1, h2⟩, h3, h4⟩ := h
 exact ⟨⟨by omega, by omega⟩, by omega, by omega⟩
theorem turn_p (a b c : Pn) (w : World) (ha : bd2 a) (hb : bd2 b) (hc : bd2 c) : Calls Try.prog 65 #[pV a, pV b, pV c] w fun e w' => e = .returned (.int .i64 (tn a b c)) ∧ Over w w' := by
 obtain ⟨a1, a2⟩ := bd2_wide ha; obtain ⟨b1, b2⟩ := bd2_wide hb; obtain ⟨c1, c2⟩ := bd2_wide hc
 exact turn_any a.1 a.2 b.1 b.2 c.1 c.2 w a1.1 a1.2 a2.1 a2.2 b1.1 b1.2 b2.1 b2.2 c1.1 c1.2 c2.1 c2.2
theorem onSeg_p (a b c : Pn) (w : World) (ha : bd2 a) (hb : bd2 b) (hc : bd2 c) : Calls Try.prog 74 #[pV a, pV b, pV c] w fun e w' => e = .returned (.bool (on2 a b c)) ∧ Over w w' := by
 obtain ⟨a1, a2⟩ := bd2_wide ha; obtain ⟨b1, b2⟩ := bd2_wide hb; obtain ⟨c1, c2⟩ := bd2_wide hc
 exact onSegment_any a.1 a.2 b.1 b.2 c.1 c.2 w a1 a2 b1 b2 c1 c2
theorem comparePt_p (a b : Pn) (w : World) (ha : bd2 a) (hb : bd2 b) : Calls Try.prog 73 #[pV a, pV b] w fun e w' => e = .returned (.int .i64 (cmpP a b)) ∧ Over w w' := by
 obtain ⟨⟨a1, a2⟩, a3, a4⟩ := ha; obtain ⟨⟨b1, b2⟩, b3, b4⟩ := hb
 refine walk_from (m := 22) (Try.func73) rfl rfl (Nat.le_of_ble_eq_true rfl) ?_
 refine at_seq ?_
 refine at_region ?_
 refine at_op rfl ?_
 refine op_box rfl rfl (rfl) rfl (by decide) (fun b1 => ?_)
 refine at_rsE (by simp only [ya,yb,yc,yd,Value.cells,ye]; rfl) ?_
 refine at_op rfl ?_
 refine op_box rfl rfl (rfl) rfl (by decide) (fun b2 => ?_)
 refine at_rsE (by simp only [ya,yb,yc,yd,Value.cells,ye]; rfl) ?_
 refine at_q rfl rfl (by decide) (qt_assign rfl rfl) ?_
 refine at_end ?_
 refine at_seq ?_
 refine at_seq ?_
 refine at_region ?_
 refine at_q rfl rfl (by decide) (qt_fieldAddr rfl rfl tyf_impl_Pt_0) ?_
 refine at_q rfl rfl (by decide) (qt_load1 rfl rfl ty1_int64 (rd1 (k := 0) rfl rfl)) ?_
 refine at_q rfl rfl (by decide) (qt_fieldAddr rfl rfl tyf_impl_Pt_0) ?_
 refine at_q rfl rfl (by decide) (qt_load1 rfl rfl ty1_int64 (rd1 (k := 1) rfl rfl)) ?_
 refine at_q rfl rfl (by decide) (qt_neq rfl rfl rfl) ?_
 refine at_end ?_
 refine at_cond rfl (fun c1 => ?_) (fun c1 => ?_)
 ·try simp only [za,zb,zc,zd,ze,zf,Bool.not_true,Bool.not_false,zg,zh,ne_eq,zi,zj] at c1
  refine at_seq ?_
  refine at_region ?_
  refine at_q rfl rfl (by decide) (qt_fieldAddr rfl rfl tyf_impl_Pt_0) ?_
  refine at_q rfl rfl (by decide) (qt_load1 rfl rfl ty1_int64 (rd1 (k := 0) rfl rfl)) ?_
  refine at_q rfl rfl (by decide) (qt_fieldAddr rfl rfl tyf_impl_Pt_0) ?_
  refine at_q rfl rfl (by decide) (qt_load1 rfl rfl ty1_int64 (rd1 (k := 1) rfl rfl)) ?_
  refine at_q rfl rfl (by decide) (qt_sub rfl rfl rfl (by omega) (by omega)) ?_
  refine at_q rfl rfl (by decide) (qt_call ok_impl_sign64 rfl rfl (fun w h => Calls.still (sign64_any _ w))) ?_
  refine at_q rfl rfl (by decide) (qt_assign rfl rfl) ?_
  refine at_end ?_
  refine at_retc ?_
  refine then_ret ?_
  refine at_ret1 rfl (.tmp rfl) ?_
  intro w' hs
  exact ⟨retI (by simp [cmpP, c1]), hs.fin⟩
 ·try simp only [za,zb,zc,zd,ze,zf,Bool.not_true,Bool.not_false,zg,zh,ne_eq,zi,zj] at c1
  refine at_skip ?_
  refine norm_then ?_
  refine at_seq ?_
  refine at_region ?_
  refine at_q rfl rfl (by decide) (qt_fieldAddr rfl rfl tyf_impl_Pt_1) ?_
  refine at_q rfl rfl (by decide) (qt_load1 rfl rfl ty1_int64 (rd1 (k := 0) rfl rfl)) ?_
  refine at_q rfl rfl (by decide) (qt_fieldAddr rfl rfl tyf_impl_Pt_1) ?_
  refine at_q rfl rfl (by decide) (qt_load1 rfl rfl ty1_int64 (rd1 (k := 1) rfl rfl)) ?_
  refine at_q rfl rfl (by decide) (qt_sub rfl rfl rfl (by omega) (by omega)) ?_
  refine at_q rfl rfl (by decide) (qt_call ok_impl_sign64 rfl rfl (fun w h => Calls.still (sign64_any _ w))) ?_
  refine at_q rfl rfl (by decide) (qt_assign rfl rfl) ?_
  refine at_end ?_
  refine at_retc ?_
  refine at_ret1 rfl (.tmp rfl) ?_
  intro w' hs
  exact ⟨retI (by simp [cmpP, c1]), hs.fin⟩
theorem lesserPt_p (a b : Pn) (w : World) (ha : bd2 a) (hb : bd2 b) : Calls Try.prog 72 #[pV a, pV b] w fun e w' => e = .returned (pV (lesP a b)) ∧ Over w w' := by
 refine walk_from (m := 11) (Try.func72) rfl rfl (Nat.le_of_ble_eq_true rfl) ?_
 refine at_seq ?_
 refine at_region ?_
 refine at_op rfl ?_
 refine op_box rfl rfl (rfl) rfl (by decide) (fun b1 => ?_)
 refine at_rsE (by simp only [ya,yb,yc,yd,Value.cells,ye]; rfl) ?_
 refine at_op rfl ?_
 refine op_box rfl rfl (rfl) rfl (by decide) (fun b2 => ?_)
 refine at_rsE (by simp only [ya,yb,yc,yd,Value.cells,ye]; rfl) ?_
 refine at_op rfl ?_
 refine op_alloc rfl tyz_impl_Pt rfl (by decide) (fun b3 => ?_)
 refine at_rsE (by simp only [ya,yb,yc,yd,Value.cells,ye]; rfl) ?_
 refine at_end ?_
 refine at_seq ?_
 refine at_seq ?_
 refine at_region ?_
 refine at_q rfl rfl (by decide) (qt_loadS rfl rfl tys_impl_Pt rfl (rdAll (k := 0) rfl)) ?_
 refine at_q rfl rfl (by decide) (qt_loadS rfl rfl tys_impl_Pt rfl (rdAll (k := 1) rfl)) ?_
 refine at_q rfl rfl (by decide) (qt_call ok_impl_comparePt rfl rfl (fun w h => comparePt_p a b w ha hb)) ?_
 refine at_q rfl rfl (by decide) (qt_leq rfl rfl rfl) ?_
 refine at_end ?_
 refine at_cond rfl (fun c1 => ?_) (fun c1 => ?_)
 ·try simp only [za,zb,zc,zd,ze,zf,Bool.not_true,Bool.not_false,zg,zh,ne_eq,zi,zj] at c1
  refine at_seq ?_
  refine at_region ?_
  refine at_q rfl rfl (by decide) (qt_loadS rfl rfl tys_impl_Pt rfl (rdAll (k := 0) rfl)) ?_
  refine at_op rfl ?_
  refine op_storeAll' (k := 2) rfl rfl rfl rfl (rfl) (by rfl) tyz_impl_Pt.szx rfl rfl rfl ?_
  refine at_rsE (by simp only [ya,yb,yc,yd,Value.cells,ye]; rfl) ?_
  refine at_end ?_
  refine at_retc ?_
  refine then_ret ?_
  refine at_ret1 rfl (rvCelS (k := 2) rfl tys_impl_Pt rfl rfl) ?_
  intro w' hs
  exact ⟨by rw [lesP, if_pos c1], hs.fin⟩
 ·try simp only [za,zb,zc,zd,ze,zf,Bool.not_true,Bool.not_false,zg,zh,ne_eq,zi,zj] at c1
  refine at_skip ?_
  refine norm_then ?_
  refine at_seq ?_
  refine at_region ?_
  refine at_q rfl rfl (by decide) (qt_loadS rfl rfl tys_impl_Pt rfl (rdAll (k := 1) rfl)) ?_
  refine at_op rfl ?_
  refine op_storeAll' (k := 2) rfl rfl rfl rfl (rfl) (by rfl) tyz_impl_Pt.szx rfl rfl rfl ?_
  refine at_rsE (by simp only [ya,yb,yc,yd,Value.cells,ye]; rfl) ?_
  refine at_end ?_
  refine at_retc ?_
  refine at_ret1 rfl (rvCelS (k := 2) rfl tys_impl_Pt rfl rfl) ?_
  intro w' hs
  exact ⟨by rw [lesP, if_neg (by omega)], hs.fin⟩
theorem greaterPt_p (a b : Pn) (w : World) (ha : bd2 a) (hb : bd2 b) : Calls Try.prog 71 #[pV a, pV b] w fun e w' => e = .returned (pV (grtP a b)) ∧ Over w w' := by
 refine walk_from (m := 11) (Try.func71) rfl rfl (Nat.le_of_ble_eq_true rfl) ?_
 refine at_seq ?_
 refine at_region ?_
 refine at_op rfl ?_
 refine op_box rfl rfl (rfl) rfl (by decide) (fun b1 => ?_)
 refine at_rsE (by simp only [ya,yb,yc,yd,Value.cells,ye]; rfl) ?_
 refine at_op rfl ?_
 refine op_box rfl rfl (rfl) rfl (by decide) (fun b2 => ?_)
 refine at_rsE (by simp only [ya,yb,yc,yd,Value.cells,ye]; rfl) ?_
 refine at_op rfl ?_
 refine op_alloc rfl tyz_impl_Pt rfl (by decide) (fun b3 => ?_)
 refine at_rsE (by simp only [ya,yb,yc,yd,Value.cells,ye]; rfl) ?_
 refine at_end ?_
 refine at_seq ?_
 refine at_seq ?_
 refine at_region ?_
 refine at_q rfl rfl (by decide) (qt_loadS rfl rfl tys_impl_Pt rfl (rdAll (k := 0) rfl)) ?_
 refine at_q rfl rfl (by decide) (qt_loadS rfl rfl tys_impl_Pt rfl (rdAll (k := 1) rfl)) ?_
 refine at_q rfl rfl (by decide) (qt_call ok_impl_comparePt rfl rfl (fun w h => comparePt_p a b w ha hb)) ?_
 refine at_q rfl rfl (by decide) (qt_geq rfl rfl rfl) ?_
 refine at_end ?_
 refine at_cond rfl (fun c1 => ?_) (fun c1 => ?_)
 ·try simp only [za,zb,zc,zd,ze,zf,Bool.not_true,Bool.not_false,zg,zh,ne_eq,zi,zj] at c1
  refine at_seq ?_
  refine at_region ?_
  refine at_q rfl rfl (by decide) (qt_loadS rfl rfl tys_impl_Pt rfl (rdAll (k := 0) rfl)) ?_
  refine at_op rfl ?_
  refine op_storeAll' (k := 2) rfl rfl rfl rfl (rfl) (by rfl) tyz_impl_Pt.szx rfl rfl rfl ?_
  refine at_rsE (by simp only [ya,yb,yc,yd,Value.cells,ye]; rfl) ?_
  refine at_end ?_
  refine at_retc ?_
  refine then_ret ?_
  refine at_ret1 rfl (rvCelS (k := 2) rfl tys_impl_Pt rfl rfl) ?_
  intro w' hs
  exact ⟨by rw [grtP, if_pos c1], hs.fin⟩
 ·try simp only [za,zb,zc,zd,ze,zf,Bool.not_true,Bool.not_false,zg,zh,ne_eq,zi,zj] at c1
  refine at_skip ?_
  refine norm_then ?_
  refine at_seq ?_
  refine at_region ?_
  refine at_q rfl rfl (by decide) (qt_loadS rfl rfl tys_impl_Pt rfl (rdAll (k := 1) rfl)) ?_
  refine at_op rfl ?_
  refine op_storeAll' (k := 2) rfl rfl rfl rfl (rfl) (by rfl) tyz_impl_Pt.szx rfl rfl rfl ?_
  refine at_rsE (by simp only [ya,yb,yc,yd,Value.cells,ye]; rfl) ?_
  refine at_end ?_
  refine at_retc ?_
  refine at_ret1 rfl (rvCelS (k := 2) rfl tys_impl_Pt rfl rfl) ?_
  intro w' hs
  exact ⟨by rw [grtP, if_neg (by omega)], hs.fin⟩
theorem sgn_mul_bd (m n : Int) : -1 ≤ sgn m * sgn n ∧ sgn m * sgn n ≤ 1 := by
 rcases sgn3 m with ⟨_, e1⟩ | ⟨_, e1⟩ | ⟨_, e1⟩ <;> rcases sgn3 n with ⟨_, e2⟩ | ⟨_, e2⟩ | ⟨_, e2⟩ <;> rw [e1, e2] <;> omega
abbrev mtV (r : Int × Pn) : Value := .tuple #[.int .i64 r.1, pV r.2]
theorem meetV (k : Int) (p : Pn) {r : Int × Pn} (h : r = (k, p)) : Ending.returned (.tuple #[.int .i64 k, pV p]) = Ending.returned (mtV r) := by rw [h]
theorem meeting_any (a b c d : Pn) (w : World) (ha : bd2 a) (hb : bd2 b) (hc : bd2 c) (hd : bd2 d) : Calls Try.prog 60 #[pV a, pV b, pV c, pV d] w fun e w' => e = .returned (mtV (meetI a b c d)) ∧ Over w w' := by
 have m1 := sgn_mul_bd (tn a b c) (tn a b d)
 have m2 := sgn_mul_bd (tn c d a) (tn c d b)
 have l1 := (lesP_key ha hb).2.1
 have l2 := (lesP_key hc hd).2.1
 have g1 := (grtP_key ha hb).2.1
 have g2 := (grtP_key hc hd).2.1
 refine walk_from (m := 110) (Try.func60) rfl rfl (Nat.le_of_ble_eq_true rfl) ?_
 refine at_seq ?_
 refine at_region ?_
 refine at_op rfl ?_
 refine op_box rfl rfl (rfl) rfl (by decide) (fun b1 => ?_)
 refine at_rsE (by simp only [ya,yb,yc,yd,Value.cells,ye]; rfl) ?_
 refine at_op rfl ?_
 refine op_box rfl rfl (rfl) rfl (by decide) (fun b2 => ?_)
 refine at_rsE (by simp only [ya,yb,yc,yd,Value.cells,ye]; rfl) ?_
 refine at_op rfl ?_
 refine op_box rfl rfl (rfl) rfl (by decide) (fun b3 => ?_)
 refine at_rsE (by simp only [ya,yb,yc,yd,Value.cells,ye]; rfl) ?_
 refine at_op rfl ?_
 refine op_box rfl rfl (rfl) rfl (by decide) (fun b4 => ?_)
 refine at_rsE (by simp only [ya,yb,yc,yd,Value.cells,ye]; rfl) ?_
 refine at_q rfl rfl (by decide) (qt_assign rfl rfl) ?_
 refine at_op rfl ?_
 refine op_alloc rfl tyz_impl_Pt rfl (by decide) (fun b5 => ?_)
 refine at_rsE (by simp only [ya,yb,yc,yd,Value.cells,ye]; rfl) ?_
 refine at_end ?_
 refine at_seq ?_
 refine dg_start mixed rfl ?_
 refine dg_phase 24 ?_
 refine dg_q (i := 0) rfl (by kernel_rfl) (by kernel_rfl) (by kernel_rfl) [] (by kernel_rfl) (fun _ _ _ h => h) rfl rfl (by decide) (fun _ h => h.upto ⟨rfl, rfl, rfl, rfl, rfl, trivial⟩) (qt_loadS rfl rfl tys_impl_Pt rfl (rdAll (k := 0) rfl)) ?_
 refine dg_q (i := 1) rfl (by kernel_rfl) (by kernel_rfl) (by kernel_rfl) [] (by kernel_rfl) (fun _ _ _ h => h) rfl rfl (by decide) (fun _ h => h.upto ⟨rfl, rfl, rfl, rfl, rfl, trivial⟩) (qt_loadS rfl rfl tys_impl_Pt rfl (rdAll (k := 1) rfl)) ?_
 refine dg_q (i := 2) rfl (by kernel_rfl) (by kernel_rfl) (by kernel_rfl) [] (by kernel_rfl) (fun _ _ _ h => h) rfl rfl (by decide) (fun _ h => h.upto ⟨rfl, rfl, rfl, rfl, rfl, trivial⟩) (qt_loadS rfl rfl tys_impl_Pt rfl (rdAll (k := 2) rfl)) ?_
 refine dg_q (i := 3) rfl (by kernel_rfl) (by kernel_rfl) (by kernel_rfl) [] (by kernel_rfl) (fun _ _ _ h => h) rfl rfl (by decide) (fun _ h => h.upto ⟨rfl, rfl, rfl, rfl, rfl, trivial⟩) (qt_call ok_impl_turn rfl rfl (fun w h => turn_p _ _ _ w (by assumption) (by assumption) (by assumption))) ?_
 refine dg_q (i := 4) rfl (by kernel_rfl) (by kernel_rfl) (by kernel_rfl) [] (by kernel_rfl) (fun _ _ _ h => h) rfl rfl (by decide) (fun _ h => h.upto ⟨rfl, rfl, rfl, rfl, rfl, trivial⟩) (qt_call ok_impl_sign64 rfl rfl (fun w h => Calls.still (sign64_any _ w))) ?_
 refine dg_q (i := 5) rfl (by kernel_rfl) (by kernel_rfl) (by kernel_rfl) [] (by kernel_rfl) (fun _ _ _ h => h) rfl rfl (by decide) (fun _ h => h.upto ⟨rfl, rfl, rfl, rfl, rfl, trivial⟩) (qt_loadS rfl rfl tys_impl_Pt rfl (rdAll (k := 0) rfl)) ?_
 refine dg_q (i := 6) rfl (by kernel_rfl) (by kernel_rfl) (by kernel_rfl) [] (by kernel_rfl) (fun _ _ _ h => h) rfl rfl (by decide) (fun _ h => h.upto ⟨rfl, rfl, rfl, rfl, rfl, trivial⟩) (qt_loadS rfl rfl tys_impl_Pt rfl (rdAll (k := 1) rfl)) ?_
 refine dg_q (i := 7) rfl (by kernel_rfl) (by kernel_rfl) (by kernel_rfl) [] (by kernel_rfl) (fun _ _ _ h => h) rfl rfl (by decide) (fun _ h => h.upto ⟨rfl, rfl, rfl, rfl, rfl, trivial⟩) (qt_loadS rfl rfl tys_impl_Pt rfl (rdAll (k := 3) rfl)) ?_
 refine dg_q (i := 8) rfl (by kernel_rfl) (by kernel_rfl) (by kernel_rfl) [] (by kernel_rfl) (fun _ _ _ h => h) rfl rfl (by decide) (fun _ h => h.upto ⟨rfl, rfl, rfl, rfl, rfl, trivial⟩) (qt_call ok_impl_turn rfl rfl (fun w h => turn_p _ _ _ w (by assumption) (by assumption) (by assumption))) ?_
 refine dg_q (i := 9) rfl (by kernel_rfl) (by kernel_rfl) (by kernel_rfl) [] (by kernel_rfl) (fun _ _ _ h => h) rfl rfl (by decide) (fun _ h => h.upto ⟨rfl, rfl, rfl, rfl, rfl, trivial⟩) (qt_call ok_impl_sign64 rfl rfl (fun w h => Calls.still (sign64_any _ w))) ?_
 refine dg_q (i := 10) rfl (by kernel_rfl) (by kernel_rfl) (by kernel_rfl) [] (by kernel_rfl) (fun _ _ _ h => h) rfl rfl (by decide) (fun _ h => h.upto ⟨rfl, rfl, rfl, rfl, rfl, trivial⟩) (qt_loadS rfl rfl tys_impl_Pt rfl (rdAll (k := 2) rfl)) ?_
 refine dg_q (i := 11) rfl (by kernel_rfl) (by kernel_rfl) (by kernel_rfl) [] (by kernel_rfl) (fun _ _ _ h => h) rfl rfl (by decide) (fun _ h => h.upto ⟨rfl, rfl, rfl, rfl, rfl, trivial⟩) (qt_loadS rfl rfl tys_impl_Pt rfl (rdAll (k := 3) rfl)) ?_
 refine dg_q (i := 12) rfl (by kernel_rfl) (by kernel_rfl) (by kernel_rfl) [] (by kernel_rfl) (fun _ _ _ h => h) rfl rfl (by decide) (fun _ h => h.upto ⟨rfl, rfl, rfl, rfl, rfl, trivial⟩) (qt_loadS rfl rfl tys_impl_Pt rfl (rdAll (k := 0) rfl)) ?_
 refine dg_q (i := 13) rfl (by kernel_rfl) (by kernel_rfl) (by kernel_rfl) [] (by kernel_rfl) (fun _ _ _ h => h) rfl rfl (by decide) (fun _ h => h.upto ⟨rfl, rfl, rfl, rfl, rfl, trivial⟩) (qt_call ok_impl_turn rfl rfl (fun w h => turn_p _ _ _ w (by assumption) (by assumption) (by assumption))) ?_
 refine dg_q (i := 14) rfl (by kernel_rfl) (by kernel_rfl) (by kernel_rfl) [] (by kernel_rfl) (fun _ _ _ h => h) rfl rfl (by decide) (fun _ h => h.upto ⟨rfl, rfl, rfl, rfl, rfl, trivial⟩) (qt_call ok_impl_sign64 rfl rfl (fun w h => Calls.still (sign64_any _ w))) ?_
 refine dg_q (i := 15) rfl (by kernel_rfl) (by kernel_rfl) (by kernel_rfl) [] (by kernel_rfl) (fun _ _ _ h => h) rfl rfl (by decide) (fun _ h => h.upto ⟨rfl, rfl, rfl, rfl, rfl, trivial⟩) (qt_loadS rfl rfl tys_impl_Pt rfl (rdAll (k := 2) rfl)) ?_
 refine dg_q (i := 16) rfl (by kernel_rfl) (by kernel_rfl) (by kernel_rfl) [] (by kernel_rfl) (fun _ _ _ h => h) rfl rfl (by decide) (fun _ h => h.upto ⟨rfl, rfl, rfl, rfl, rfl, trivial⟩) (qt_loadS rfl rfl tys_impl_Pt rfl (rdAll (k := 3) rfl)) ?_
 refine dg_q (i := 17) rfl (by kernel_rfl) (by kernel_rfl) (by kernel_rfl) [] (by kernel_rfl) (fun _ _ _ h => h) rfl rfl (by decide) (fun _ h => h.upto ⟨rfl, rfl, rfl, rfl, rfl, trivial⟩) (qt_loadS rfl rfl tys_impl_Pt rfl (rdAll (k := 1) rfl)) ?_
 refine dg_q (i := 18) rfl (by kernel_rfl) (by kernel_rfl) (by kernel_rfl) [] (by kernel_rfl) (fun _ _ _ h => h) rfl rfl (by decide) (fun _ h => h.upto ⟨rfl, rfl, rfl, rfl, rfl, trivial⟩) (qt_call ok_impl_turn rfl rfl (fun w h => turn_p _ _ _ w (by assumption) (by assumption) (by assumption))) ?_
 refine dg_q (i := 19) rfl (by kernel_rfl) (by kernel_rfl) (by kernel_rfl) [] (by kernel_rfl) (fun _ _ _ h => h) rfl rfl (by decide) (fun _ h => h.upto ⟨rfl, rfl, rfl, rfl, rfl, trivial⟩) (qt_call ok_impl_sign64 rfl rfl (fun w h => Calls.still (sign64_any _ w))) ?_
 refine dg_q (i := 20) rfl (by kernel_rfl) (by kernel_rfl) (by kernel_rfl) [] (by kernel_rfl) (fun _ _ _ h => h) rfl rfl (by decide) (fun _ h => h.upto ⟨rfl, rfl, rfl, rfl, rfl, trivial⟩) (qt_assign rfl rfl) ?_
 refine dg_q (i := 21) rfl (by kernel_rfl) (by kernel_rfl) (by kernel_rfl) [] (by kernel_rfl) (fun _ _ _ h => h) rfl rfl (by decide) (fun _ h => h.upto ⟨rfl, rfl, rfl, rfl, rfl, trivial⟩) (qt_assign rfl rfl) ?_
 refine dg_q (i := 22) rfl (by kernel_rfl) (by kernel_rfl) (by kernel_rfl) [] (by kernel_rfl) (fun _ _ _ h => h) rfl rfl (by decide) (fun _ h => h.upto ⟨rfl, rfl, rfl, rfl, rfl, trivial⟩) (qt_assign rfl rfl) ?_
 refine dg_q (i := 23) rfl (by kernel_rfl) (by kernel_rfl) (by kernel_rfl) [] (by kernel_rfl) (fun _ _ _ h => h) rfl rfl (by decide) (fun _ h => h.upto ⟨rfl, rfl, rfl, rfl, rfl, trivial⟩) (qt_assign rfl rfl) ?_
 refine dg_done (by kernel_rfl) ?_
 refine norm_then ?_
 refine at_seq ?_
 refine at_cutE [(49, .bool (flatM a b c d))] (C := [(4, _), (5, _), (6, _), (7, _), (8, _), (9, _), (10, _), (11, _), (12, _), (13, _)])  ⟨rfl, rfl, rfl, rfl, rfl, rfl, rfl, rfl, rfl, rfl, trivial⟩ (fun L hC_cut_2 => ?_) ?_
 ·refine at_region ?_
  refine at_q rfl rfl (by decide) (qt_move rfl rfl) ?_
  refine at_q rfl rfl (by decide) (qt_eql rfl rfl rfl) ?_
  refine at_q rfl rfl (by decide) (qt_move rfl rfl) ?_
  refine at_bsplit 38 rfl (fun g1 => ?_) (fun g1 => ?_)
  ·try simp only [za,zb,zc,zd,ze,zf,Bool.not_true,Bool.not_false,zg,zh,ne_eq,zi,zj] at g1
   refine at_on rfl rfl rfl rfl ?_
   refine op_q rfl (by decide) (qt_move rfl rfl) ?_
   refine at_on rfl rfl rfl rfl ?_
   refine op_q rfl (by decide) (qt_eql rfl rfl rfl) ?_
   refine at_q rfl rfl (by decide) (qt_pickT rfl rfl rfl) ?_
   refine at_q rfl rfl (by decide) (qt_move rfl rfl) ?_
   refine at_bsplit 42 rfl (fun g2 => ?_) (fun g2 => ?_)
   ·try simp only [za,zb,zc,zd,ze,zf,Bool.not_true,Bool.not_false,zg,zh,ne_eq,zi,zj] at g2
    refine at_on rfl rfl rfl rfl ?_
    refine op_q rfl (by decide) (qt_move rfl rfl) ?_
    refine at_on rfl rfl rfl rfl ?_
    refine op_q rfl (by decide) (qt_eql rfl rfl rfl) ?_
    refine at_q rfl rfl (by decide) (qt_pickT rfl rfl rfl) ?_
    refine at_q rfl rfl (by decide) (qt_move rfl rfl) ?_
    refine at_bsplit 46 rfl (fun g3 => ?_) (fun g3 => ?_)
    ·try simp only [za,zb,zc,zd,ze,zf,Bool.not_true,Bool.not_false,zg,zh,ne_eq,zi,zj] at g3
     refine at_on rfl rfl rfl rfl ?_
     refine op_q rfl (by decide) (qt_move rfl rfl) ?_
     refine at_on rfl rfl rfl rfl ?_
     refine op_q rfl (by decide) (qt_eql rfl rfl rfl) ?_
     refine at_q rfl rfl (by decide) (qt_pickT rfl rfl rfl) ?_
     refine at_end ?_
     exact at_meet hC_cut_2 ⟨vb (by simp [flatM, *]), rfl, rfl, rfl, rfl, rfl, rfl, rfl, rfl, rfl, rfl, trivial⟩ (fun _ h => h.upto ⟨rfl, rfl, rfl, rfl, rfl, trivial⟩)
    ·try simp only [za,zb,zc,zd,ze,zf,Bool.not_true,Bool.not_false,zg,zh,ne_eq,zi,zj] at g3
     refine at_off rfl rfl rfl rfl (by decide) rfl (by decide) ?_
     refine at_off rfl rfl rfl rfl (by decide) rfl (by decide) ?_
     refine at_q rfl rfl (by decide) (qt_pickF rfl rfl rfl) ?_
     refine at_end ?_
     exact at_meet hC_cut_2 ⟨vb (by simp [flatM, *]), rfl, rfl, rfl, rfl, rfl, rfl, rfl, rfl, rfl, rfl, trivial⟩ (fun _ h => h.upto ⟨rfl, rfl, rfl, rfl, rfl, trivial⟩)
   ·try simp only [za,zb,zc,zd,ze,zf,Bool.not_true,Bool.not_false,zg,zh,ne_eq,zi,zj] at g2
    refine at_off rfl rfl rfl rfl (by decide) rfl (by decide) ?_
    refine at_off rfl rfl rfl rfl (by decide) rfl (by decide) ?_
    refine at_q rfl rfl (by decide) (qt_pickF rfl rfl rfl) ?_
    refine at_q rfl rfl (by decide) (qt_move rfl rfl) ?_
    refine at_off rfl rfl rfl rfl (by decide) rfl (by decide) ?_
    refine at_off rfl rfl rfl rfl (by decide) rfl (by decide) ?_
    refine at_q rfl rfl (by decide) (qt_pickF rfl rfl rfl) ?_
    refine at_end ?_
    exact at_meet hC_cut_2 ⟨vb (by simp [flatM, *]), rfl, rfl, rfl, rfl, rfl, rfl, rfl, rfl, rfl, rfl, trivial⟩ (fun _ h => h.upto ⟨rfl, rfl, rfl, rfl, rfl, trivial⟩)
  ·try simp only [za,zb,zc,zd,ze,zf,Bool.not_true,Bool.not_false,zg,zh,ne_eq,zi,zj] at g1
   refine at_off rfl rfl rfl rfl (by decide) rfl (by decide) ?_
   refine at_off rfl rfl rfl rfl (by decide) rfl (by decide) ?_
   refine at_q rfl rfl (by decide) (qt_pickF rfl rfl rfl) ?_
   refine at_q rfl rfl (by decide) (qt_move rfl rfl) ?_
   refine at_off rfl rfl rfl rfl (by decide) rfl (by decide) ?_
   refine at_off rfl rfl rfl rfl (by decide) rfl (by decide) ?_
   refine at_q rfl rfl (by decide) (qt_pickF rfl rfl rfl) ?_
   refine at_q rfl rfl (by decide) (qt_move rfl rfl) ?_
   refine at_off rfl rfl rfl rfl (by decide) rfl (by decide) ?_
   refine at_off rfl rfl rfl rfl (by decide) rfl (by decide) ?_
   refine at_q rfl rfl (by decide) (qt_pickF rfl rfl rfl) ?_
   refine at_end ?_
   exact at_meet hC_cut_2 ⟨vb (by simp [flatM, *]), rfl, rfl, rfl, rfl, rfl, rfl, rfl, rfl, rfl, rfl, trivial⟩ (fun _ h => h.upto ⟨rfl, rfl, rfl, rfl, rfl, trivial⟩)
 ·refine at_envE (by simp only [ya,yb]; rfl) ?_
  refine at_cond rfl (fun c1 => ?_) (fun c1 => ?_)
  ·try simp only [za,zb,zc,zd,ze,zf,Bool.not_true,Bool.not_false,zg,zh,ne_eq,zi,zj] at c1
   refine at_seq ?_
   refine dg_start mixed rfl ?_
   refine dg_phase 9 ?_
   refine dg_q (i := 0) rfl (by kernel_rfl) (by kernel_rfl) (by kernel_rfl) [] (by kernel_rfl) (fun _ _ _ h => h) rfl rfl (by decide) (fun _ h => h.upto ⟨rfl, rfl, rfl, rfl, rfl, trivial⟩) (qt_loadS rfl rfl tys_impl_Pt rfl (rdAll (k := 0) rfl)) ?_
   refine dg_q (i := 1) rfl (by kernel_rfl) (by kernel_rfl) (by kernel_rfl) [] (by kernel_rfl) (fun _ _ _ h => h) rfl rfl (by decide) (fun _ h => h.upto ⟨rfl, rfl, rfl, rfl, rfl, trivial⟩) (qt_loadS rfl rfl tys_impl_Pt rfl (rdAll (k := 1) rfl)) ?_
   refine dg_q (i := 2) rfl (by kernel_rfl) (by kernel_rfl) (by kernel_rfl) [] (by kernel_rfl) (fun _ _ _ h => h) rfl rfl (by decide) (fun _ h => h.upto ⟨rfl, rfl, rfl, rfl, rfl, trivial⟩) (qt_call ok_impl_lesserPt rfl rfl (fun w h => lesserPt_p _ _ w ha hb)) ?_
   refine dg_q (i := 3) rfl (by kernel_rfl) (by kernel_rfl) (by kernel_rfl) [] (by kernel_rfl) (fun _ _ _ h => h) rfl rfl (by decide) (fun _ h => h.upto ⟨rfl, rfl, rfl, rfl, rfl, trivial⟩) (qt_loadS rfl rfl tys_impl_Pt rfl (rdAll (k := 2) rfl)) ?_
   refine dg_q (i := 4) rfl (by kernel_rfl) (by kernel_rfl) (by kernel_rfl) [] (by kernel_rfl) (fun _ _ _ h => h) rfl rfl (by decide) (fun _ h => h.upto ⟨rfl, rfl, rfl, rfl, rfl, trivial⟩) (qt_loadS rfl rfl tys_impl_Pt rfl (rdAll (k := 3) rfl)) ?_
   refine dg_q (i := 5) rfl (by kernel_rfl) (by kernel_rfl) (by kernel_rfl) [] (by kernel_rfl) (fun _ _ _ h => h) rfl rfl (by decide) (fun _ h => h.upto ⟨rfl, rfl, rfl, rfl, rfl, trivial⟩) (qt_call ok_impl_lesserPt rfl rfl (fun w h => lesserPt_p _ _ w hc hd)) ?_
   refine dg_q (i := 6) rfl (by kernel_rfl) (by kernel_rfl) (by kernel_rfl) [] (by kernel_rfl) (fun _ _ _ h => h) rfl rfl (by decide) (fun _ h => h.upto ⟨rfl, rfl, rfl, rfl, rfl, trivial⟩) (qt_call ok_impl_greaterPt rfl rfl (fun w h => greaterPt_p _ _ w l1 l2)) ?_
   refine dg_one (i := 7) rfl (by decide) (by kernel_rfl) rfl ?_
   refine op_alloc rfl tyz_impl_Pt rfl (by decide) (fun b6 => ?_)
   refine at_rsE (by simp only [ya,yb,yc,yd,Value.cells,ye]; rfl) ?_
   refine dr_keep (fun _ h => h.upto ⟨rfl, rfl, rfl, rfl, rfl, trivial⟩) ?_
   refine dg_one (i := 8) rfl (by decide) (by kernel_rfl) rfl ?_
   refine op_storeAll' (k := 5) rfl rfl rfl rfl (rfl) (by rfl) tyz_impl_Pt.szx rfl rfl rfl ?_
   refine at_rsE (by simp only [ya,yb,yc,yd,Value.cells,ye]; rfl) ?_
   refine dr_keep (fun _ h => h.upto ⟨rfl, rfl, rfl, rfl, rfl, trivial⟩) ?_
   refine dg_done (by kernel_rfl) ?_
   refine norm_then ?_
   refine at_seq ?_
   refine dg_start mixed rfl ?_
   refine dg_phase 9 ?_
   refine dg_q (i := 0) rfl (by kernel_rfl) (by kernel_rfl) (by kernel_rfl) [] (by kernel_rfl) (fun _ _ _ h => h) rfl rfl (by decide) (fun _ h => h.upto ⟨rfl, rfl, rfl, rfl, rfl, rfl, trivial⟩) (qt_loadS rfl rfl tys_impl_Pt rfl (rdAll (k := 0) rfl)) ?_
   refine dg_q (i := 1) rfl (by kernel_rfl) (by kernel_rfl) (by kernel_rfl) [] (by kernel_rfl) (fun _ _ _ h => h) rfl rfl (by decide) (fun _ h => h.upto ⟨rfl, rfl, rfl, rfl, rfl, rfl, trivial⟩) (qt_loadS rfl rfl tys_impl_Pt rfl (rdAll (k := 1) rfl)) ?_
   refine dg_q (i := 2) rfl (by kernel_rfl) (by kernel_rfl) (by kernel_rfl) [] (by kernel_rfl) (fun _ _ _ h => h) rfl rfl (by decide) (fun _ h => h.upto ⟨rfl, rfl, rfl, rfl, rfl, rfl, trivial⟩) (qt_call ok_impl_greaterPt rfl rfl (fun w h => greaterPt_p _ _ w ha hb)) ?_
   refine dg_q (i := 3) rfl (by kernel_rfl) (by kernel_rfl) (by kernel_rfl) [] (by kernel_rfl) (fun _ _ _ h => h) rfl rfl (by decide) (fun _ h => h.upto ⟨rfl, rfl, rfl, rfl, rfl, rfl, trivial⟩) (qt_loadS rfl rfl tys_impl_Pt rfl (rdAll (k := 2) rfl)) ?_
   refine dg_q (i := 4) rfl (by kernel_rfl) (by kernel_rfl) (by kernel_rfl) [] (by kernel_rfl) (fun _ _ _ h => h) rfl rfl (by decide) (fun _ h => h.upto ⟨rfl, rfl, rfl, rfl, rfl, rfl, trivial⟩) (qt_loadS rfl rfl tys_impl_Pt rfl (rdAll (k := 3) rfl)) ?_
   refine dg_q (i := 5) rfl (by kernel_rfl) (by kernel_rfl) (by kernel_rfl) [] (by kernel_rfl) (fun _ _ _ h => h) rfl rfl (by decide) (fun _ h => h.upto ⟨rfl, rfl, rfl, rfl, rfl, rfl, trivial⟩) (qt_call ok_impl_greaterPt rfl rfl (fun w h => greaterPt_p _ _ w hc hd)) ?_
   refine dg_q (i := 6) rfl (by kernel_rfl) (by kernel_rfl) (by kernel_rfl) [] (by kernel_rfl) (fun _ _ _ h => h) rfl rfl (by decide) (fun _ h => h.upto ⟨rfl, rfl, rfl, rfl, rfl, rfl, trivial⟩) (qt_call ok_impl_lesserPt rfl rfl (fun w h => lesserPt_p _ _ w g1 g2)) ?_
   refine dg_one (i := 7) rfl (by decide) (by kernel_rfl) rfl ?_
   refine op_alloc rfl tyz_impl_Pt rfl (by decide) (fun b7 => ?_)
   refine at_rsE (by simp only [ya,yb,yc,yd,Value.cells,ye]; rfl) ?_
   refine dr_keep (fun _ h => h.upto ⟨rfl, rfl, rfl, rfl, rfl, rfl, trivial⟩) ?_
   refine dg_one (i := 8) rfl (by decide) (by kernel_rfl) rfl ?_
   refine op_storeAll' (k := 6) rfl rfl rfl rfl (rfl) (by rfl) tyz_impl_Pt.szx rfl rfl rfl ?_
   refine at_rsE (by simp only [ya,yb,yc,yd,Value.cells,ye]; rfl) ?_
   refine dr_keep (fun _ h => h.upto ⟨rfl, rfl, rfl, rfl, rfl, rfl, trivial⟩) ?_
   refine dg_done (by kernel_rfl) ?_
   refine norm_then ?_
   refine at_seq ?_
   refine at_seq ?_
   refine at_region ?_
   refine at_q rfl rfl (by decide) (qt_loadS rfl rfl tys_impl_Pt rfl (rdAll (k := 5) rfl)) ?_
   refine at_q rfl rfl (by decide) (qt_loadS rfl rfl tys_impl_Pt rfl (rdAll (k := 6) rfl)) ?_
   refine at_q rfl rfl (by decide) (qt_call ok_impl_comparePt rfl rfl (fun w h => comparePt_p _ _ w (grtP_key l1 l2).2.1 (lesP_key g1 g2).2.1)) ?_
   refine at_end ?_
   refine at_block ?_
   refine at_seq ?_
   refine at_region ?_
   refine at_q rfl rfl (by decide) (qt_eql rfl rfl rfl) ?_
   refine at_q rfl rfl (by decide) (qt_assign rfl rfl) ?_
   refine at_end ?_
   refine at_cond rfl (fun c2 => ?_) (fun c2 => ?_)
   ·try simp only [za,zb,zc,zd,ze,zf,Bool.not_true,Bool.not_false,zg,zh,ne_eq,zi,zj] at c2
    refine at_seq ?_
    refine dg_start mixed rfl ?_
    refine dg_phaseW 3 [4] ?_
    refine dg_q (i := 0) rfl (by kernel_rfl) (by kernel_rfl) (by kernel_rfl) [] (by kernel_rfl) (fun _ _ _ h => h) rfl rfl (by decide) (fun _ h => (h.wk [4]).upto ⟨rfl, rfl, rfl, rfl, rfl, rfl, rfl, trivial⟩) (qt_loadS rfl rfl tys_impl_Pt rfl (rdAll (k := 5) rfl)) ?_
    refine dg_q (i := 1) rfl (by kernel_rfl) (by kernel_rfl) (by kernel_rfl) [] (by kernel_rfl) (fun _ _ _ h => h) rfl rfl (by decide) (fun _ h => (h.wk [4]).upto ⟨rfl, rfl, rfl, rfl, rfl, rfl, rfl, trivial⟩) (qt_assign rfl rfl) ?_
    refine dg_one (i := 2) rfl (by decide) (by kernel_rfl) rfl ?_
    refine op_storeAll' (k := 4) rfl rfl rfl rfl (rfl) (by rfl) tyz_impl_Pt.szx rfl rfl rfl ?_
    refine at_rsE (by simp only [ya,yb,yc,yd,Value.cells,ye]; rfl) ?_
    refine dr_keep (fun _ h => (h.wk [4]).upto ⟨rfl, rfl, rfl, rfl, rfl, rfl, rfl, trivial⟩) ?_
    refine dg_done (by kernel_rfl) ?_
    refine norm_then ?_
    refine at_retc ?_
    refine pass_ret ?_
    refine then_ret ?_
    refine then_ret ?_
    refine at_ret2 rfl (.tmp rfl) (rvCelS (k := 4) rfl tys_impl_Pt rfl rfl) ?_
    intro w' hs
    exact ⟨meetV 1 (lowM a b c d) (by rw [meetI, if_pos c1, if_pos (show cmpP (lowM a b c d) (highM a b c d) = 0 from c2)]), hs.fin⟩
   ·try simp only [za,zb,zc,zd,ze,zf,Bool.not_true,Bool.not_false,zg,zh,ne_eq,zi,zj] at c2
    refine at_seq ?_
    refine at_region ?_
    refine at_q rfl rfl (by decide) (qt_eql rfl rfl rfl) ?_
    refine at_q rfl rfl (by decide) (qt_assign rfl rfl) ?_
    refine at_end ?_
    refine at_cond rfl (fun c3 => ?_) (fun c3 => ?_)
    ·try simp only [za,zb,zc,zd,ze,zf,Bool.not_true,Bool.not_false,zg,zh,ne_eq,zi,zj] at c3
     refine at_seq ?_
     refine dg_start mixed rfl ?_
     refine dg_phaseW 3 [4] ?_
     refine dg_q (i := 0) rfl (by kernel_rfl) (by kernel_rfl) (by kernel_rfl) [] (by kernel_rfl) (fun _ _ _ h => h) rfl rfl (by decide) (fun _ h => (h.wk [4]).upto ⟨rfl, rfl, rfl, rfl, rfl, rfl, rfl, trivial⟩) (qt_loadS rfl rfl tys_impl_Pt rfl (rdAll (k := 5) rfl)) ?_
     refine dg_q (i := 1) rfl (by kernel_rfl) (by kernel_rfl) (by kernel_rfl) [] (by kernel_rfl) (fun _ _ _ h => h) rfl rfl (by decide) (fun _ h => (h.wk [4]).upto ⟨rfl, rfl, rfl, rfl, rfl, rfl, rfl, trivial⟩) (qt_assign rfl rfl) ?_
     refine dg_one (i := 2) rfl (by decide) (by kernel_rfl) rfl ?_
     refine op_storeAll' (k := 4) rfl rfl rfl rfl (rfl) (by rfl) tyz_impl_Pt.szx rfl rfl rfl ?_
     refine at_rsE (by simp only [ya,yb,yc,yd,Value.cells,ye]; rfl) ?_
     refine dr_keep (fun _ h => (h.wk [4]).upto ⟨rfl, rfl, rfl, rfl, rfl, rfl, rfl, trivial⟩) ?_
     refine dg_done (by kernel_rfl) ?_
     refine norm_then ?_
     refine at_retc ?_
     refine pass_ret ?_
     refine then_ret ?_
     refine then_ret ?_
     refine at_ret2 rfl (.tmp rfl) (rvCelS (k := 4) rfl tys_impl_Pt rfl rfl) ?_
     intro w' hs
     exact ⟨meetV 3 (lowM a b c d) (by rw [meetI, if_pos c1, if_neg (show ¬ cmpP (lowM a b c d) (highM a b c d) = 0 from c2), if_pos (show cmpP (lowM a b c d) (highM a b c d) = -1 from c3)]), hs.fin⟩
    ·try simp only [za,zb,zc,zd,ze,zf,Bool.not_true,Bool.not_false,zg,zh,ne_eq,zi,zj] at c3
     refine at_skip ?_
     refine norm_block ?_
     refine norm_then ?_
     refine at_seq ?_
     refine at_region ?_
     refine at_q rfl rfl (by decide) (qt_build rfl rfl (bld_impl_Pt_)) ?_
     refine at_q rfl rfl (by decide) (qt_assign rfl rfl) ?_
     refine at_op rfl ?_
     refine op_storeAll' (k := 4) rfl rfl rfl rfl (rfl) (by rfl) tyz_impl_Pt.szx rfl rfl rfl ?_
     refine at_rsE (by simp only [ya,yb,yc,yd,Value.cells,ye]; rfl) ?_
     refine at_end ?_
     refine at_retc ?_
     refine then_ret ?_
     refine at_ret2 rfl (.tmp rfl) (rvCelS (k := 4) rfl tys_impl_Pt rfl rfl) ?_
     intro w' hs
     exact ⟨meetV 0 (0, 0) (by rw [meetI, if_pos c1, if_neg (show ¬ cmpP (lowM a b c d) (highM a b c d) = 0 from c2), if_neg (show ¬ cmpP (lowM a b c d) (highM a b c d) = -1 from c3)]), hs.fin⟩
  ·try simp only [za,zb,zc,zd,ze,zf,Bool.not_true,Bool.not_false,zg,zh,ne_eq,zi,zj] at c1
   refine at_skip ?_
   refine norm_then ?_
   refine at_seq ?_
   refine at_cutE [(83, .bool (strictM a b c d))] (C := [(4, _), (5, _), (6, _), (7, _), (8, _), (9, _)])  ⟨rfl, rfl, rfl, rfl, rfl, rfl, trivial⟩ (fun L hC_cut_11 => ?_) ?_
   ·refine at_region ?_
    refine at_q rfl rfl (by decide) (qt_move rfl rfl) ?_
    refine at_q rfl rfl (by decide) (qt_move rfl rfl) ?_
    refine at_q rfl rfl (by decide) (qt_mul rfl rfl rfl (by omega) (by omega)) ?_
    refine at_q rfl rfl (by decide) (qt_lss rfl rfl rfl) ?_
    refine at_q rfl rfl (by decide) (qt_move rfl rfl) ?_
    refine at_bsplit 78 rfl (fun g4 => ?_) (fun g4 => ?_)
    ·try simp only [za,zb,zc,zd,ze,zf,Bool.not_true,Bool.not_false,zg,zh,ne_eq,zi,zj] at g4
     refine at_on rfl rfl rfl rfl ?_
     refine op_q rfl (by decide) (qt_move rfl rfl) ?_
     refine at_on rfl rfl rfl rfl ?_
     refine op_q rfl (by decide) (qt_move rfl rfl) ?_
     refine at_on rfl rfl rfl rfl ?_
     refine op_q rfl (by decide) (qt_mul rfl rfl rfl (by omega) (by omega)) ?_
     refine at_on rfl rfl rfl rfl ?_
     refine op_q rfl (by decide) (qt_lss rfl rfl rfl) ?_
     refine at_q rfl rfl (by decide) (qt_pickT rfl rfl rfl) ?_
     refine at_end ?_
     exact at_meet hC_cut_11 ⟨vb (by simp [strictM, *] <;> omega), rfl, rfl, rfl, rfl, rfl, rfl, trivial⟩ (fun _ h => h.upto ⟨rfl, rfl, rfl, rfl, rfl, trivial⟩)
    ·try simp only [za,zb,zc,zd,ze,zf,Bool.not_true,Bool.not_false,zg,zh,ne_eq,zi,zj] at g4
     refine at_off rfl rfl rfl rfl (by decide) rfl (by decide) ?_
     refine at_off rfl rfl rfl rfl (by decide) rfl (by decide) ?_
     refine at_off rfl rfl rfl rfl (by decide) rfl (by decide) ?_
     refine at_off rfl rfl rfl rfl (by decide) rfl (by decide) ?_
     refine at_q rfl rfl (by decide) (qt_pickF rfl rfl rfl) ?_
     refine at_end ?_
     exact at_meet hC_cut_11 ⟨vb (by simp [strictM, *] <;> omega), rfl, rfl, rfl, rfl, rfl, rfl, trivial⟩ (fun _ h => h.upto ⟨rfl, rfl, rfl, rfl, rfl, trivial⟩)
   ·refine at_envE (by simp only [ya,yb]; rfl) ?_
    refine at_cond rfl (fun c4 => ?_) (fun c4 => ?_)
    ·try simp only [za,zb,zc,zd,ze,zf,Bool.not_true,Bool.not_false,zg,zh,ne_eq,zi,zj] at c4
     refine at_seq ?_
     refine at_region ?_
     refine at_q rfl rfl (by decide) (qt_build rfl rfl (bld_impl_Pt_)) ?_
     refine at_q rfl rfl (by decide) (qt_assign rfl rfl) ?_
     refine at_op rfl ?_
     refine op_storeAll' (k := 4) rfl rfl rfl rfl (rfl) (by rfl) tyz_impl_Pt.szx rfl rfl rfl ?_
     refine at_rsE (by simp only [ya,yb,yc,yd,Value.cells,ye]; rfl) ?_
     refine at_end ?_
     refine at_retc ?_
     refine then_ret ?_
     refine at_ret2 rfl (.tmp rfl) (rvCelS (k := 4) rfl tys_impl_Pt rfl rfl) ?_
     intro w' hs
     exact ⟨meetV 2 (0, 0) (by rw [meetI, if_neg (by simp [c1]), if_pos c4]), hs.fin⟩
    ·try simp only [za,zb,zc,zd,ze,zf,Bool.not_true,Bool.not_false,zg,zh,ne_eq,zi,zj] at c4
     refine at_skip ?_
     refine norm_then ?_
     refine at_seq ?_
     refine at_block ?_
     refine at_seq ?_
     refine at_region ?_
     refine at_q rfl rfl (by decide) (qt_loadS rfl rfl tys_impl_Pt rfl (rdAll (k := 0) rfl)) ?_
     refine at_q rfl rfl (by decide) (qt_loadS rfl rfl tys_impl_Pt rfl (rdAll (k := 1) rfl)) ?_
     refine at_q rfl rfl (by decide) (qt_loadS rfl rfl tys_impl_Pt rfl (rdAll (k := 2) rfl)) ?_
     refine at_q rfl rfl (by decide) (qt_call ok_impl_onSegment rfl rfl (fun w h => onSeg_p _ _ _ w (by assumption) (by assumption) (by assumption))) ?_
     refine at_q rfl rfl (by decide) (qt_assign rfl rfl) ?_
     refine at_end ?_
     refine at_cond rfl (fun c5 => ?_) (fun c5 => ?_)
     ·try simp only [za,zb,zc,zd,ze,zf,Bool.not_true,Bool.not_false,zg,zh,ne_eq,zi,zj] at c5
      refine at_seq ?_
      refine dg_start mixed rfl ?_
      refine dg_phaseW 3 [4] ?_
      refine dg_q (i := 0) rfl (by kernel_rfl) (by kernel_rfl) (by kernel_rfl) [] (by kernel_rfl) (fun _ _ _ h => h) rfl rfl (by decide) (fun _ h => (h.wk [4]).upto ⟨rfl, rfl, rfl, rfl, rfl, trivial⟩) (qt_loadS rfl rfl tys_impl_Pt rfl (rdAll (k := 2) rfl)) ?_
      refine dg_q (i := 1) rfl (by kernel_rfl) (by kernel_rfl) (by kernel_rfl) [] (by kernel_rfl) (fun _ _ _ h => h) rfl rfl (by decide) (fun _ h => (h.wk [4]).upto ⟨rfl, rfl, rfl, rfl, rfl, trivial⟩) (qt_assign rfl rfl) ?_
      refine dg_one (i := 2) rfl (by decide) (by kernel_rfl) rfl ?_
      refine op_storeAll' (k := 4) rfl rfl rfl rfl (rfl) (by rfl) tyz_impl_Pt.szx rfl rfl rfl ?_
      refine at_rsE (by simp only [ya,yb,yc,yd,Value.cells,ye]; rfl) ?_
      refine dr_keep (fun _ h => (h.wk [4]).upto ⟨rfl, rfl, rfl, rfl, rfl, trivial⟩) ?_
      refine dg_done (by kernel_rfl) ?_
      refine norm_then ?_
      refine at_retc ?_
      refine pass_ret ?_
      refine then_ret ?_
      refine at_ret2 rfl (.tmp rfl) (rvCelS (k := 4) rfl tys_impl_Pt rfl rfl) ?_
      intro w' hs
      exact ⟨meetV 1 c (by rw [meetI, if_neg (by simp [c1]), if_neg (by simp [c4]), if_pos c5]), hs.fin⟩
     ·try simp only [za,zb,zc,zd,ze,zf,Bool.not_true,Bool.not_false,zg,zh,ne_eq,zi,zj] at c5
      refine at_seq ?_
      refine at_region ?_
      refine at_q rfl rfl (by decide) (qt_loadS rfl rfl tys_impl_Pt rfl (rdAll (k := 0) rfl)) ?_
      refine at_q rfl rfl (by decide) (qt_loadS rfl rfl tys_impl_Pt rfl (rdAll (k := 1) rfl)) ?_
      refine at_q rfl rfl (by decide) (qt_loadS rfl rfl tys_impl_Pt rfl (rdAll (k := 3) rfl)) ?_
      refine at_q rfl rfl (by decide) (qt_call ok_impl_onSegment rfl rfl (fun w h => onSeg_p _ _ _ w (by assumption) (by assumption) (by assumption))) ?_
      refine at_q rfl rfl (by decide) (qt_assign rfl rfl) ?_
      refine at_end ?_
      refine at_cond rfl (fun c6 => ?_) (fun c6 => ?_)
      ·try simp only [za,zb,zc,zd,ze,zf,Bool.not_true,Bool.not_false,zg,zh,ne_eq,zi,zj] at c6
       refine at_seq ?_
       refine dg_start mixed rfl ?_
       refine dg_phaseW 3 [4] ?_
       refine dg_q (i := 0) rfl (by kernel_rfl) (by kernel_rfl) (by kernel_rfl) [] (by kernel_rfl) (fun _ _ _ h => h) rfl rfl (by decide) (fun _ h => (h.wk [4]).upto ⟨rfl, rfl, rfl, rfl, rfl, trivial⟩) (qt_loadS rfl rfl tys_impl_Pt rfl (rdAll (k := 3) rfl)) ?_
       refine dg_q (i := 1) rfl (by kernel_rfl) (by kernel_rfl) (by kernel_rfl) [] (by kernel_rfl) (fun _ _ _ h => h) rfl rfl (by decide) (fun _ h => (h.wk [4]).upto ⟨rfl, rfl, rfl, rfl, rfl, trivial⟩) (qt_assign rfl rfl) ?_
       refine dg_one (i := 2) rfl (by decide) (by kernel_rfl) rfl ?_
       refine op_storeAll' (k := 4) rfl rfl rfl rfl (rfl) (by rfl) tyz_impl_Pt.szx rfl rfl rfl ?_
       refine at_rsE (by simp only [ya,yb,yc,yd,Value.cells,ye]; rfl) ?_
       refine dr_keep (fun _ h => (h.wk [4]).upto ⟨rfl, rfl, rfl, rfl, rfl, trivial⟩) ?_
       refine dg_done (by kernel_rfl) ?_
       refine norm_then ?_
       refine at_retc ?_
       refine pass_ret ?_
       refine then_ret ?_
       refine at_ret2 rfl (.tmp rfl) (rvCelS (k := 4) rfl tys_impl_Pt rfl rfl) ?_
       intro w' hs
       exact ⟨meetV 1 d (by rw [meetI, if_neg (by simp [c1]), if_neg (by simp [c4]), if_neg (by simp [c5]), if_pos c6]), hs.fin⟩
      ·try simp only [za,zb,zc,zd,ze,zf,Bool.not_true,Bool.not_false,zg,zh,ne_eq,zi,zj] at c6
       refine at_seq ?_
       refine at_region ?_
       refine at_q rfl rfl (by decide) (qt_loadS rfl rfl tys_impl_Pt rfl (rdAll (k := 2) rfl)) ?_
       refine at_q rfl rfl (by decide) (qt_loadS rfl rfl tys_impl_Pt rfl (rdAll (k := 3) rfl)) ?_
       refine at_q rfl rfl (by decide) (qt_loadS rfl rfl tys_impl_Pt rfl (rdAll (k := 0) rfl)) ?_
       refine at_q rfl rfl (by decide) (qt_call ok_impl_onSegment rfl rfl (fun w h => onSeg_p _ _ _ w (by assumption) (by assumption) (by assumption))) ?_
       refine at_q rfl rfl (by decide) (qt_assign rfl rfl) ?_
       refine at_end ?_
       refine at_cond rfl (fun c7 => ?_) (fun c7 => ?_)
       ·try simp only [za,zb,zc,zd,ze,zf,Bool.not_true,Bool.not_false,zg,zh,ne_eq,zi,zj] at c7
        refine at_seq ?_
        refine dg_start mixed rfl ?_
        refine dg_phaseW 3 [4] ?_
        refine dg_q (i := 0) rfl (by kernel_rfl) (by kernel_rfl) (by kernel_rfl) [] (by kernel_rfl) (fun _ _ _ h => h) rfl rfl (by decide) (fun _ h => (h.wk [4]).upto ⟨rfl, rfl, rfl, rfl, rfl, trivial⟩) (qt_loadS rfl rfl tys_impl_Pt rfl (rdAll (k := 0) rfl)) ?_
        refine dg_q (i := 1) rfl (by kernel_rfl) (by kernel_rfl) (by kernel_rfl) [] (by kernel_rfl) (fun _ _ _ h => h) rfl rfl (by decide) (fun _ h => (h.wk [4]).upto ⟨rfl, rfl, rfl, rfl, rfl, trivial⟩) (qt_assign rfl rfl) ?_
        refine dg_one (i := 2) rfl (by decide) (by kernel_rfl) rfl ?_
        refine op_storeAll' (k := 4) rfl rfl rfl rfl (rfl) (by rfl) tyz_impl_Pt.szx rfl rfl rfl ?_
        refine at_rsE (by simp only [ya,yb,yc,yd,Value.cells,ye]; rfl) ?_
        refine dr_keep (fun _ h => (h.wk [4]).upto ⟨rfl, rfl, rfl, rfl, rfl, trivial⟩) ?_
        refine dg_done (by kernel_rfl) ?_
        refine norm_then ?_
        refine at_retc ?_
        refine pass_ret ?_
        refine then_ret ?_
        refine at_ret2 rfl (.tmp rfl) (rvCelS (k := 4) rfl tys_impl_Pt rfl rfl) ?_
        intro w' hs
        exact ⟨meetV 1 a (by rw [meetI, if_neg (by simp [c1]), if_neg (by simp [c4]), if_neg (by simp [c5]), if_neg (by simp [c6]), if_pos c7]), hs.fin⟩
       ·try simp only [za,zb,zc,zd,ze,zf,Bool.not_true,Bool.not_false,zg,zh,ne_eq,zi,zj] at c7
        refine at_seq ?_
        refine at_region ?_
        refine at_q rfl rfl (by decide) (qt_loadS rfl rfl tys_impl_Pt rfl (rdAll (k := 2) rfl)) ?_
        refine at_q rfl rfl (by decide) (qt_loadS rfl rfl tys_impl_Pt rfl (rdAll (k := 3) rfl)) ?_
        refine at_q rfl rfl (by decide) (qt_loadS rfl rfl tys_impl_Pt rfl (rdAll (k := 1) rfl)) ?_
        refine at_q rfl rfl (by decide) (qt_call ok_impl_onSegment rfl rfl (fun w h => onSeg_p _ _ _ w (by assumption) (by assumption) (by assumption))) ?_
        refine at_q rfl rfl (by decide) (qt_assign rfl rfl) ?_
        refine at_end ?_
        refine at_cond rfl (fun c8 => ?_) (fun c8 => ?_)
        ·try simp only [za,zb,zc,zd,ze,zf,Bool.not_true,Bool.not_false,zg,zh,ne_eq,zi,zj] at c8
         refine at_seq ?_
         refine dg_start mixed rfl ?_
         refine dg_phaseW 3 [4] ?_
         refine dg_q (i := 0) rfl (by kernel_rfl) (by kernel_rfl) (by kernel_rfl) [] (by kernel_rfl) (fun _ _ _ h => h) rfl rfl (by decide) (fun _ h => (h.wk [4]).upto ⟨rfl, rfl, rfl, rfl, rfl, trivial⟩) (qt_loadS rfl rfl tys_impl_Pt rfl (rdAll (k := 1) rfl)) ?_
         refine dg_q (i := 1) rfl (by kernel_rfl) (by kernel_rfl) (by kernel_rfl) [] (by kernel_rfl) (fun _ _ _ h => h) rfl rfl (by decide) (fun _ h => (h.wk [4]).upto ⟨rfl, rfl, rfl, rfl, rfl, trivial⟩) (qt_assign rfl rfl) ?_
         refine dg_one (i := 2) rfl (by decide) (by kernel_rfl) rfl ?_
         refine op_storeAll' (k := 4) rfl rfl rfl rfl (rfl) (by rfl) tyz_impl_Pt.szx rfl rfl rfl ?_
         refine at_rsE (by simp only [ya,yb,yc,yd,Value.cells,ye]; rfl) ?_
         refine dr_keep (fun _ h => (h.wk [4]).upto ⟨rfl, rfl, rfl, rfl, rfl, trivial⟩) ?_
         refine dg_done (by kernel_rfl) ?_
         refine norm_then ?_
         refine at_retc ?_
         refine pass_ret ?_
         refine then_ret ?_
         refine at_ret2 rfl (.tmp rfl) (rvCelS (k := 4) rfl tys_impl_Pt rfl rfl) ?_
         intro w' hs
         exact ⟨meetV 1 b (by rw [meetI, if_neg (by simp [c1]), if_neg (by simp [c4]), if_neg (by simp [c5]), if_neg (by simp [c6]), if_neg (by simp [c7]), if_pos c8]), hs.fin⟩
        ·try simp only [za,zb,zc,zd,ze,zf,Bool.not_true,Bool.not_false,zg,zh,ne_eq,zi,zj] at c8
         refine at_skip ?_
         refine norm_block ?_
         refine norm_then ?_
         refine at_seq ?_
         refine at_region ?_
         refine at_q rfl rfl (by decide) (qt_build rfl rfl (bld_impl_Pt_)) ?_
         refine at_q rfl rfl (by decide) (qt_assign rfl rfl) ?_
         refine at_op rfl ?_
         refine op_storeAll' (k := 4) rfl rfl rfl rfl (rfl) (by rfl) tyz_impl_Pt.szx rfl rfl rfl ?_
         refine at_rsE (by simp only [ya,yb,yc,yd,Value.cells,ye]; rfl) ?_
         refine at_end ?_
         refine at_retc ?_
         refine at_ret2 rfl (.tmp rfl) (rvCelS (k := 4) rfl tys_impl_Pt rfl rfl) ?_
         intro w' hs
         exact ⟨meetV 0 (0, 0) (by rw [meetI, if_neg (by simp [c1]), if_neg (by simp [c4]), if_neg (by simp [c5]), if_neg (by simp [c6]), if_neg (by simp [c7]), if_neg (by simp [c8])]), hs.fin⟩
end Go.Proofs.Ytcigocejgmafjaa
