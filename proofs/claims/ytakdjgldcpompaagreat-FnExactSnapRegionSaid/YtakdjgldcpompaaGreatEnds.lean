/- Ends of ways; rounds of snapping; valid regions of any size; bare rings. -/
import Derived.Test.YtakdjgldcpompaaGreatPathR
import Derived.Test.YtakdjgldcpompaaGreatSnapped
import Derived.Test.YtakdjgldcpompaaGreatReg3
import Derived.Test.YtakdjgldcpompaaGreatTo
namespace Go.Proofs.YtakdjgldcpompaaGreat
open Go Go.RowKit
set_option linter.unusedVariables false
set_option linter.unusedSimpArgs false
set_option maxRecDepth 100000
set_option maxHeartbeats 4000000
set_option linter.unusedVariables false
set_option linter.unusedSimpArgs false

/-! ### Quotients in a part -/
def lowOk (s : Sp) (u v : Int) : Prop := s.ln * v < u * s.ld ∨ (s.ln * v = u * s.ld ∧ s.lc = true)
def highOk (s : Sp) (u v : Int) : Prop := u * s.hd < s.hn * v ∨ (u * s.hd = s.hn * v ∧ s.hc = true)
def memS (s : Sp) (u v : Int) : Prop := lowOk s u v ∧ highOk s u v
theorem lowOk.le {s : Sp} {u v : Int} (h : lowOk s u v) : s.ln * v ≤ u * s.ld := by rcases h with h | ⟨h, _⟩ <;> omega
theorem highOk.le {s : Sp} {u v : Int} (h : highOk s u v) : u * s.hd ≤ s.hn * v := by rcases h with h | ⟨h, _⟩ <;> omega
theorem low_meet {s x : Sp} {u v : Int} (hs : 0 < s.ld) (hx : 0 < x.ld) (hv : 0 < v) : lowOk (meetLow s x) u v ↔ lowOk s u v ∧ lowOk x u v := by
 unfold meetLow
 split
 ·rename_i h
  have e : lowOk { s with ln := x.ln, ld := x.ld, lc := x.lc } u v = lowOk x u v := rfl
  rw [e]
  refine ⟨fun hx' => ⟨?_, hx'⟩, fun h => h.2⟩
  simp only [upLow, Bool.or_eq_true, Bool.and_eq_true, decide_eq_true_eq, Bool.not_eq_true'] at h
  rcases h with h | ⟨h, ho⟩
  ·exact .inl (frac_lt hx hs hv (by omega) hx'.le)
  ·rcases hx' with h' | ⟨_, h'⟩
   ·exact .inl (frac_lt' hx hs hv (by omega) h')
   ·rw [ho] at h'; cases h'
 ·rename_i h
  refine ⟨fun h' => ⟨h', ?_⟩, fun h => h.1⟩
  simp only [upLow, Bool.or_eq_true, Bool.and_eq_true, decide_eq_true_eq, Bool.not_eq_true', not_or, not_and, Bool.not_eq_false] at h
  obtain ⟨g1, g2⟩ := h
  rcases h' with h' | ⟨h', hc⟩
  ·exact .inl (frac_lt' hs hx hv (by omega) h')
  ·by_cases g : x.ln * s.ld < s.ln * x.ld
   ·exact .inl (frac_lt hs hx hv g (by omega))
   ·have l1 := frac_le (a := x.ln) (b := x.ld) (c := s.ln) (d := s.ld) (e := u) (f := v) hs hx hv (by omega) (by omega)
    have l2 := frac_le (a := u) (b := v) (c := s.ln) (d := s.ld) (e := x.ln) (f := x.ld) hs hv hx (by omega) (by omega)
    exact .inr ⟨by omega, g2 (by omega)⟩
theorem high_meet {s x : Sp} {u v : Int} (hs : 0 < s.hd) (hx : 0 < x.hd) (hv : 0 < v) : highOk (meetHigh s x) u v ↔ highOk s u v ∧ highOk x u v := by
 unfold meetHigh
 split
 ·rename_i h
  have e : highOk { s with hn := x.hn, hd := x.hd, hc := x.hc } u v = highOk x u v := rfl
  rw [e]
  refine ⟨fun hx' => ⟨?_, hx'⟩, fun h => h.2⟩
  simp only [upHigh, Bool.or_eq_true, Bool.and_eq_true, decide_eq_true_eq, Bool.not_eq_true'] at h
  rcases h with h | ⟨h, ho⟩
  ·exact .inl (frac_lt' hx hv hs hx'.le (by omega))
  ·rcases hx' with h' | ⟨_, h'⟩
   ·exact .inl (frac_lt hx hv hs h' (by omega))
   ·rw [ho] at h'; cases h'
 ·rename_i h
  refine ⟨fun h' => ⟨h', ?_⟩, fun h => h.1⟩
  simp only [upHigh, Bool.or_eq_true, Bool.and_eq_true, decide_eq_true_eq, Bool.not_eq_true', not_or, not_and, Bool.not_eq_false] at h
  obtain ⟨g1, g2⟩ := h
  rcases h' with h' | ⟨h', hc⟩
  ·exact .inl (frac_lt hs hv hx h' (by omega))
  ·by_cases g : s.hn * x.hd < x.hn * s.hd
   ·exact .inl (frac_lt' hs hv hx (by omega) g)
   ·have l1 := frac_le (a := u) (b := v) (c := s.hn) (d := s.hd) (e := x.hn) (f := x.hd) hs hv hx (by omega) (by omega)
    have l2 := frac_le (a := x.hn) (b := x.hd) (c := s.hn) (d := s.hd) (e := u) (f := v) hs hx hv (by omega) (by omega)
    exact .inr ⟨by omega, g2 (by omega)⟩
theorem low_mh {s x : Sp} {u v : Int} : lowOk (meetHigh s x) u v ↔ lowOk s u v := by unfold meetHigh; split <;> exact Iff.rfl
theorem high_ml {s x : Sp} {u v : Int} : highOk (meetLow s x) u v ↔ highOk s u v := by unfold meetLow; split <;> exact Iff.rfl
theorem mem_meet {s x : Sp} {u v : Int} (hs : 0 < s.ld ∧ 0 < s.hd) (hx : 0 < x.ld ∧ 0 < x.hd) (hv : 0 < v) : memS (spMeet s x) u v ↔ memS s u v ∧ memS x u v := by
 unfold memS spMeet
 rw [low_mh, low_meet hs.1 hx.1 hv, high_meet (meetLow_pos hs hx).2 hx.2 hv, high_ml]
 constructor
 ·rintro ⟨⟨h1, h2⟩, h3, h4⟩; exact ⟨⟨h1, h3⟩, h2, h4⟩
 ·rintro ⟨⟨h1, h3⟩, h2, h4⟩; exact ⟨⟨h1, h2⟩, h3, h4⟩
theorem mem_sp0 {u v : Int} : memS sp0 u v ↔ 0 ≤ u ∧ u ≤ v := by
 unfold memS lowOk highOk sp0
 simp only [Int.zero_mul, Int.mul_one, Int.one_mul, and_true]
 omega
/-- The place u / v of a segment lies in the strip. -/
def inPx (f d lo u v : Int) : Prop := lo * v ≤ f * v + u * d ∧ f * v + u * d < (lo + 2) * v
theorem pix_mem {f d lo u v : Int} (hv : 0 < v) (h0 : 0 ≤ u) (h1 : u ≤ v) : (pixIn f d lo = true ∧ memS (pixX f d lo) u v) ↔ inPx f d lo u v := by
 have e1 : (lo + 2) * v = lo * v + 2 * v := Int.add_mul ..
 by_cases hd : 0 < d
 ·have hp : pixIn f d lo = true := by unfold pixIn; rw [decide_eq_false (by omega)]; rfl
  have e2 : (lo - f) * v = lo * v - f * v := Int.sub_mul ..
  have e3 : (lo + 2 - f) * v = lo * v + 2 * v - f * v := by rw [Int.sub_mul, Int.add_mul]
  rw [hp]
  unfold pixX
  rw [if_pos hd]
  unfold memS lowOk highOk inPx
  simp only [true_and, and_true, Bool.false_eq_true, and_false, or_false]
  rw [e1, e2, e3]
  omega
 ·by_cases hn : d < 0
  ·have hp : pixIn f d lo = true := by unfold pixIn; rw [decide_eq_false (by omega)]; rfl
   have e2 : (f - lo) * v = f * v - lo * v := Int.sub_mul ..
   have e3 : (f - lo - 2) * v = f * v - lo * v - 2 * v := by rw [Int.sub_mul, Int.sub_mul]
   have e4 : u * (-d) = -(u * d) := Int.mul_neg ..
   rw [hp]
   unfold pixX
   rw [if_neg hd, if_pos hn]
   unfold memS lowOk highOk inPx
   simp only [true_and, and_true, Bool.false_eq_true, and_false, or_false]
   rw [e1, e2, e3, e4]
   omega
  ·obtain rfl : d = 0 := by omega
   rw [pixX_zero, mem_sp0]
   unfold pixIn inPx
   rw [Int.mul_zero, Int.add_zero]
   simp only [decide_true, Bool.not_true, Bool.false_or, Bool.and_eq_true, decide_eq_true_eq]
   constructor
   ·rintro ⟨⟨g1, g2⟩, _⟩
    exact ⟨Int.mul_le_mul_of_nonneg_right g1 (by omega), Int.mul_lt_mul_of_pos_right g2 hv⟩
   ·rintro ⟨g1, g2⟩
    exact ⟨⟨Int.le_of_mul_le_mul_right g1 hv, Int.lt_of_mul_lt_mul_right g2 (by omega)⟩, h0, h1⟩
theorem nonE_ex {s : Sp} (hs : 0 < s.ld ∧ 0 < s.hd) (h : nonE s = true) : ∃ u v, 0 < v ∧ memS s u v := by
 simp only [nonE, Bool.or_eq_true, Bool.and_eq_true, decide_eq_true_eq] at h
 rcases h with h | ⟨⟨h, h1⟩, h2⟩
 ·have p := Int.mul_pos hs.1 hs.2
  refine ⟨s.ln * s.hd + s.hn * s.ld, 2 * (s.ld * s.hd), by omega, .inl ?_, .inl ?_⟩
  ·have := Int.mul_lt_mul_of_pos_right (show s.ln * s.hd < s.hn * s.ld by omega) hs.1
   have e1 : s.ln * (2 * (s.ld * s.hd)) = 2 * (s.ln * s.hd * s.ld) := by grind
   have e2 : (s.ln * s.hd + s.hn * s.ld) * s.ld = s.ln * s.hd * s.ld + s.hn * s.ld * s.ld := Int.add_mul ..
   rw [e1, e2]
   omega
  ·have := Int.mul_lt_mul_of_pos_right (show s.ln * s.hd < s.hn * s.ld by omega) hs.2
   have e1 : s.hn * (2 * (s.ld * s.hd)) = 2 * (s.hn * s.ld * s.hd) := by grind
   have e2 : (s.ln * s.hd + s.hn * s.ld) * s.hd = s.ln * s.hd * s.hd + s.hn * s.ld * s.hd := Int.add_mul ..
   rw [e1, e2]
   omega
 ·exact ⟨s.ln, s.ld, hs.1, .inr ⟨rfl, h1⟩, .inr ⟨by omega, h2⟩⟩
theorem mem_nonE {s : Sp} {u v : Int} (hs : 0 < s.ld ∧ 0 < s.hd) (hv : 0 < v) (h : memS s u v) : nonE s = true := by
 simp only [nonE, Bool.or_eq_true, Bool.and_eq_true, decide_eq_true_eq]
 obtain ⟨h1, h2⟩ := h
 by_cases g1 : s.ln * v < u * s.ld
 ·have := frac_lt (a := s.ln) (b := s.ld) (c := u) (d := v) (e := s.hn) (f := s.hd) hv hs.1 hs.2 g1 h2.le
  exact .inl (by omega)
 ·by_cases g2 : u * s.hd < s.hn * v
  ·have := frac_lt' (a := s.ln) (b := s.ld) (c := u) (d := v) (e := s.hn) (f := s.hd) hv hs.1 hs.2 h1.le g2
   exact .inl (by omega)
  ·have l1 := frac_le (a := s.ln) (b := s.ld) (c := u) (d := v) (e := s.hn) (f := s.hd) hv hs.1 hs.2 h1.le h2.le
   have k1 := h1.resolve_left g1
   have k2 := h2.resolve_left g2
   have l2 := frac_le (a := s.hn) (b := s.hd) (c := u) (d := v) (e := s.ln) (f := s.ld) hv hs.2 hs.1 (by omega) (by omega)
   exact .inr ⟨⟨by omega, k1.2⟩, k2.2⟩

/-! ### A segment in a pixel -/
def inPt (a b p : Pn) (u v : Int) : Prop := inPx (2 * a.1) (2 * (b.1 - a.1)) (2 * p.1 - 1) u v ∧ inPx (2 * a.2) (2 * (b.2 - a.2)) (2 * p.2 - 1) u v
theorem path_mem {a b p : Pn} {u v : Int} (hv : 0 < v) (h : insP a b p = true) : memS (pathSp a b p) u v ↔ (0 ≤ u ∧ u ≤ v) ∧ inPt a b p u v := by
 unfold insP insB at h
 simp only [Bool.and_eq_true] at h
 unfold pathSp inPt
 rw [mem_meet (spMeet_pos sp0_pos (pixX_pos _ _ _)) (pixX_pos _ _ _) hv, mem_meet sp0_pos (pixX_pos _ _ _) hv, mem_sp0]
 constructor
 ·rintro ⟨⟨⟨h0, h1⟩, h2⟩, h3⟩
  exact ⟨⟨h0, h1⟩, (pix_mem hv h0 h1).1 ⟨h.1.1, h2⟩, (pix_mem hv h0 h1).1 ⟨h.1.2, h3⟩⟩
 ·rintro ⟨⟨h0, h1⟩, h2, h3⟩
  exact ⟨⟨⟨h0, h1⟩, ((pix_mem hv h0 h1).2 h2).2⟩, ((pix_mem hv h0 h1).2 h3).2⟩
theorem insP_of {a b p : Pn} {u v : Int} (hv : 0 < v) (h0 : 0 ≤ u) (h1 : u ≤ v) (h : inPt a b p u v) : insP a b p = true := by
 have hx := (pix_mem hv h0 h1).2 h.1
 have hy := (pix_mem hv h0 h1).2 h.2
 have hm : memS (pathSp a b p) u v := by
  unfold pathSp
  rw [mem_meet (spMeet_pos sp0_pos (pixX_pos _ _ _)) (pixX_pos _ _ _) hv, mem_meet sp0_pos (pixX_pos _ _ _) hv, mem_sp0]
  exact ⟨⟨⟨h0, h1⟩, hx.2⟩, hy.2⟩
 have := mem_nonE (pathSp_pos a b p) hv hm
 unfold insP insB
 rw [hx.1, hy.1]
 exact this
theorem inPt_uniq {a b p q : Pn} {u v : Int} (hv : 0 < v) (h : inPt a b p u v) (h' : inPt a b q u v) : p = q := by
 have key : ∀ {f d m n : Int}, inPx f d (2 * m - 1) u v → inPx f d (2 * n - 1) u v → ¬ m < n := by
  intro f d m n g g' hmn
  have := Int.mul_le_mul_of_nonneg_right (show 2 * m - 1 + 2 ≤ 2 * n - 1 by omega) (show 0 ≤ v by omega)
  have g2 := g.2
  have g1' := g'.1
  omega
 have x1 := key h.1 h'.1
 have x2 := key h'.1 h.1
 have y1 := key h.2 h'.2
 have y2 := key h'.2 h.2
 exact Prod.ext (by omega) (by omega)
theorem inPt_a (a b : Pn) : inPt a b a 0 1 := by
 unfold inPt inPx
 simp only [Int.mul_one, Int.zero_mul, Int.add_zero]
 omega
theorem inPt_b (a b : Pn) : inPt a b b 1 1 := by
 unfold inPt inPx
 simp only [Int.mul_one, Int.one_mul]
 omega
theorem insP_a (a b : Pn) : insP a b a = true := insP_of (by decide) (by decide) (by decide) (inPt_a a b)
theorem insP_b (a b : Pn) : insP a b b = true := insP_of (by decide) (by decide) (by decide) (inPt_b a b)
theorem soon_iff {s x : Sp} : soonB s x = true ↔ s.ln * x.ld < x.ln * s.ld ∨ (s.ln * x.ld = x.ln * s.ld ∧ s.lc = true ∧ x.lc = false) := by
 simp only [soonB, Bool.or_eq_true, Bool.and_eq_true, decide_eq_true_eq, Bool.not_eq_true']
 constructor
 ·rintro (h | ⟨⟨h1, h2⟩, h3⟩)
  ·exact .inl (by omega)
  ·exact .inr ⟨by omega, h2, h3⟩
 ·rintro (h | ⟨h1, h2, h3⟩)
  ·exact .inl (by omega)
  ·exact .inr ⟨⟨by omega, h2⟩, h3⟩
theorem low_unit {s x : Sp} (hs : 0 < s.ld) (hx : 0 < x.ld) (h : 0 ≤ s.ln) : 0 ≤ (spMeet s x).ln := by
 have e : (spMeet s x).ln = (meetLow s x).ln := by unfold spMeet meetHigh; split <;> rfl
 rw [e]
 unfold meetLow
 split
 ·rename_i h'
  simp only [upLow, Bool.or_eq_true, Bool.and_eq_true, decide_eq_true_eq, Bool.not_eq_true'] at h'
  have h1 : s.ln * x.ld ≤ x.ln * s.ld := by rcases h' with h' | ⟨h', _⟩ <;> omega
  have h2 : 0 ≤ s.ln * x.ld := Int.mul_nonneg h (by omega)
  show 0 ≤ x.ln
  refine Int.not_lt.1 fun hn => ?_
  have := Int.mul_neg_of_neg_of_pos hn hs
  omega
 ·exact h
theorem path_unit (a b p : Pn) : 0 ≤ (pathSp a b p).ln :=
 low_unit (spMeet_pos sp0_pos (pixX_pos _ _ _)).1 (pixX_pos _ _ _).1 (low_unit sp0_pos.1 (pixX_pos _ _ _).1 (by decide))
/-- The first end comes first. -/
theorem soon_first {a b p : Pn} (hi : insP a b p = true) (hne : p ≠ a) : soonP a b a p = true := by
 have ha := insP_a a b
 have ma : memS (pathSp a b a) 0 1 := (path_mem (by decide) ha).2 ⟨⟨by decide, by decide⟩, inPt_a a b⟩
 have ua := path_unit a b a
 have up := path_unit a b p
 have pa := pathSp_pos a b a
 have pp := pathSp_pos a b p
 have l0 : (pathSp a b a).ln = 0 ∧ (pathSp a b a).lc = true := by
  have := ma.1
  unfold lowOk at this
  simp only [Int.mul_one, Int.zero_mul] at this
  rcases this with h | ⟨h, hc⟩
  ·omega
  ·exact ⟨h, hc⟩
 unfold soonP
 rw [soon_iff, l0.1, l0.2, Int.zero_mul]
 by_cases h : 0 < (pathSp a b p).ln
 ·exact .inl (Int.mul_pos h pa.1)
 ·have e : (pathSp a b p).ln = 0 := by omega
  rw [e, Int.zero_mul]
  refine .inr ⟨rfl, rfl, ?_⟩
  cases hc : (pathSp a b p).lc with
  | false => rfl
  | true =>
   have hn : nonE (pathSp a b p) = true := by unfold insP insB at hi; simp only [Bool.and_eq_true] at hi; exact hi.2
   obtain ⟨u, v, hv, hm⟩ := nonE_ex pp hn
   have h0 := (path_mem hv hi).1 hm
   have hh : highOk (pathSp a b p) 0 1 := by
    have := hm.2
    unfold highOk at this ⊢
    simp only [Int.zero_mul, Int.mul_one]
    have q1 : 0 ≤ u * (pathSp a b p).hd := Int.mul_nonneg h0.1.1 (by omega)
    by_cases g : 0 < (pathSp a b p).hn
    ·exact .inl g
    ·have q2 : (pathSp a b p).hn * v ≤ 0 := Int.mul_nonpos_of_nonpos_of_nonneg (by omega) (by omega)
     rcases this with h' | ⟨h', hc'⟩
     ·omega
     ·refine .inr ⟨?_, hc'⟩
      have : (pathSp a b p).hn * v = 0 := by omega
      rcases Int.mul_eq_zero.1 this with h' | h' <;> omega
   have m0 : memS (pathSp a b p) 0 1 := ⟨.inr ⟨by rw [e]; simp, hc⟩, hh⟩
   exact absurd (inPt_uniq (by decide) ((path_mem (by decide) hi).1 m0).2 (inPt_a a b)) hne
/-- The last end comes last. -/
theorem soon_last {a b p : Pn} (hi : insP a b p = true) (hne : p ≠ b) : soonP a b p b = true := by
 have hb := insP_b a b
 have mb : memS (pathSp a b b) 1 1 := (path_mem (by decide) hb).2 ⟨⟨by decide, by decide⟩, inPt_b a b⟩
 have pb := pathSp_pos a b b
 have pp := pathSp_pos a b p
 rcases Bool.eq_false_or_eq_true (soonP a b p b) with h | h
 ·exact h
 ·exfalso
  have hns : ¬ ((pathSp a b p).ln * (pathSp a b b).ld < (pathSp a b b).ln * (pathSp a b p).ld ∨ ((pathSp a b p).ln * (pathSp a b b).ld = (pathSp a b b).ln * (pathSp a b p).ld ∧ (pathSp a b p).lc = true ∧ (pathSp a b b).lc = false)) := fun h' => by
   have := soon_iff.2 h'
   unfold soonP at h
   rw [h] at this
   cases this
  have hle : (pathSp a b b).ln * (pathSp a b p).ld ≤ (pathSp a b p).ln * (pathSp a b b).ld := Int.not_lt.1 fun h' => hns (.inl h')
  have hn : nonE (pathSp a b p) = true := by unfold insP insB at hi; simp only [Bool.and_eq_true] at hi; exact hi.2
  obtain ⟨u, v, hv, hm⟩ := nonE_ex pp hn
  have h0 := (path_mem hv hi).1 hm
  have hlow : lowOk (pathSp a b b) u v := by
   by_cases g : (pathSp a b p).ln * v < u * (pathSp a b p).ld
   ·exact .inl (frac_lt' pp.1 pb.1 hv hle g)
   ·obtain ⟨g1, g2⟩ := hm.1.resolve_left g
    by_cases k : (pathSp a b b).ln * (pathSp a b p).ld < (pathSp a b p).ln * (pathSp a b b).ld
    ·exact .inl (frac_lt pp.1 pb.1 hv k (by omega))
    ·have l1 := frac_le (a := (pathSp a b b).ln) (b := (pathSp a b b).ld) (c := (pathSp a b p).ln) (d := (pathSp a b p).ld) (e := u) (f := v) pp.1 pb.1 hv (by omega) (by omega)
     have l2 := frac_le (a := u) (b := v) (c := (pathSp a b p).ln) (d := (pathSp a b p).ld) (e := (pathSp a b b).ln) (f := (pathSp a b b).ld) pp.1 hv pb.1 (by omega) (by omega)
     refine .inr ⟨by omega, ?_⟩
     cases hc : (pathSp a b b).lc with
     | true => rfl
     | false => exact absurd (.inr ⟨by omega, g2, hc⟩) hns
  have hhigh : highOk (pathSp a b b) u v := by
   have := mb.2
   unfold highOk at this ⊢
   simp only [Int.one_mul, Int.mul_one] at this
   have e : v * (pathSp a b b).hd = (pathSp a b b).hd * v := Int.mul_comm ..
   by_cases g : u < v
   ·have q := Int.mul_lt_mul_of_pos_right g pb.2
    have q2 : (pathSp a b b).hd * v ≤ (pathSp a b b).hn * v := Int.mul_le_mul_of_nonneg_right (by omega) (by omega)
    exact .inl (by omega)
   ·obtain rfl : u = v := by have := h0.1.2; omega
    rcases this with h' | ⟨h', hc⟩
    ·have q2 := Int.mul_lt_mul_of_pos_right h' hv
     exact .inl (by omega)
    ·exact .inr ⟨by rw [h', Int.mul_comm], hc⟩
  exact hne (inPt_uniq hv h0.2 ((path_mem hv hb).1 ⟨hlow, hhigh⟩).2)
theorem onWay_a (a b : Pn) : onWay a b a = true := onWay_yes (boxX_yes (by omega) (by omega)) (boxY_yes (by omega) (by omega)) (insP_a a b)
theorem onWay_b (a b : Pn) : onWay a b b = true := onWay_yes (boxX_yes (by omega) (by omega)) (boxY_yes (by omega) (by omega)) (insP_b a b)
theorem onWay_ins {a b p : Pn} (h : onWay a b p = true) : insP a b p = true := by unfold onWay at h; simp only [Bool.and_eq_true] at h; exact h.2
theorem path_onWay {a b p : Pn} {hot : List Pn} : p ∈ pathP a b hot ↔ p ∈ hot ∧ onWay a b p = true := by
 rw [pathP_eq, stopL, srt_mem, List.mem_filter]
theorem path_nodup {a b : Pn} {hot : List Pn} (h : hot.Nodup) : (pathP a b hot).Nodup := by
 rw [pathP_eq]
 unfold stopL
 exact (srt_perm (lt := soonP a b) (l := hot.filter (onWay a b))).nodup_iff.2 (h.sublist List.filter_sublist)
/-- A way begins with the first end and ends with the last. -/
theorem path_ends {a b : Pn} {hot : List Pn} (hne : a ≠ b) (ha : a ∈ hot) (hb : b ∈ hot) : ∃ mid, pathP a b hot = a :: (mid ++ [b]) := by
 have ma : a ∈ pathP a b hot := path_onWay.2 ⟨ha, onWay_a a b⟩
 have mb : b ∈ pathP a b hot := path_onWay.2 ⟨hb, onWay_b a b⟩
 have hi : ∀ p ∈ pathP a b hot, insP a b p = true := fun p hp => onWay_ins (path_onWay.1 hp).2
 have hs : Srt (soonP a b) (pathP a b hot) := by rw [pathP_eq]; exact stop_srt a b hot
 revert ma mb hi hs
 generalize pathP a b hot = S
 intro ma mb hi hs
 cases S with
 | nil => cases ma
 | cons x T =>
  obtain ⟨h1, h2⟩ := List.pairwise_cons.1 hs
  have hx : x = a := Decidable.byContradiction fun hx => by
   have hT : a ∈ T := (List.mem_cons.1 ma).resolve_left (fun e => hx e.symm)
   have := soon_first (hi x (List.mem_cons_self ..)) hx
   rw [h1 a hT] at this
   cases this
  subst hx
  have hbT : b ∈ T := (List.mem_cons.1 mb).resolve_left (fun e => hne e.symm)
  rcases List.eq_nil_or_concat T with rfl | ⟨mid, y, rfl⟩
  ·cases hbT
  ·rw [List.concat_eq_append] at *
   have hy : y = b := Decidable.byContradiction fun hy => by
    have hm : b ∈ mid := (List.mem_append.1 hbT).resolve_right (fun e => hy (List.mem_singleton.1 e).symm)
    have := soon_last (hi y (List.mem_cons_of_mem _ (List.mem_append_right _ (List.mem_singleton.2 rfl)))) hy
    rw [(List.pairwise_append.1 h2).2.2 b hm y (List.mem_singleton.2 rfl)] at this
    cases this
   exact ⟨mid, by rw [hy]⟩
def mkL (e : Pn × Pn) : Leg := ⟨e.1.1, e.1.2, e.2.1, e.2.2⟩
def pairs (xs : List Pn) : List (Pn × Pn) := (List.range xs.length).map fun j => (pt xs j, pt xs (nx xs j))
/-- A ring with points, none of them followed by an equal one. -/
def bare (xs : List Pn) : Prop := 0 < xs.length ∧ ∀ j, j < xs.length → pt xs j ≠ pt xs (nx xs j)
def pieceP (hot : List Pn) (e : Pn × Pn) : List Pn := (pathP e.1 e.2 hot).dropLast
/-- The ring, led through hot points. -/
def snapR (hot xs : List Pn) : List Pn := (edgesR xs).flatMap fun l => pieceP hot (lA l, lB l)
theorem edgesTo_bare {xs : List Pn} (h : bare xs) : ∀ k, k ≤ xs.length → edgesTo xs k = ((List.range k).map fun j => (pt xs j, pt xs (nx xs j))).map mkL
 | 0, _ => rfl
 | k + 1, hk => by
  have hne := h.2 k (by omega)
  rw [edgesTo_succ, if_neg (fun e => hne (Prod.ext e.1 e.2)), edgesTo_bare h k (by omega), List.range_succ, List.map_append, List.map_append]
  rfl
theorem edges_bare {xs : List Pn} (h : bare xs) : edgesR xs = (pairs xs).map mkL := edgesTo_bare h _ (Nat.le_refl _)
theorem snapR_pairs {hot xs : List Pn} (h : bare xs) : snapR hot xs = (pairs xs).flatMap (pieceP hot) := by
 unfold snapR
 rw [edges_bare h, List.flatMap_map]
 rfl
/-- Edges one behind the other; the last ends at z. -/
def Lk : List (Pn × Pn) → Pn → Prop
 | [], _ => True
 | [e], z => e.2 = z
 | e :: f :: l, z => e.2 = f.1 ∧ Lk (f :: l) z
theorem lk_of : ∀ {es : List (Pn × Pn)} {z : Pn}, (∀ i (h : i + 1 < es.length), (es[i]'(by omega)).2 = es[i + 1].1) → (∀ h : 0 < es.length, (es[es.length - 1]'(by omega)).2 = z) → Lk es z
 | [], _, _, _ => trivial
 | [e], z, _, h2 => h2 (by simp)
 | e :: f :: l, z, h1, h2 => ⟨h1 0 (by simp), lk_of (fun i h => by have := h1 (i + 1) (by simpa using h); simpa using this) (fun h => by have := h2 (by simp); simpa using this)⟩
theorem pairs_len (xs : List Pn) : (pairs xs).length = xs.length := by simp [pairs]
theorem pairs_lk {xs : List Pn} : Lk (pairs xs) (pt xs 0) := by
 refine lk_of (fun i h => ?_) (fun h => ?_)
 ·rw [pairs_len] at h
  simp only [pairs, List.getElem_map, List.getElem_range]
  rw [show nx xs i = i + 1 from Nat.mod_eq_of_lt h]
 ·rw [pairs_len] at h
  simp only [pairs, List.getElem_map, List.getElem_range, List.length_map, List.length_range]
  rw [show nx xs (xs.length - 1) = 0 by unfold nx; rw [show xs.length - 1 + 1 = xs.length by omega, Nat.mod_self]]
theorem pairs_fst (xs : List Pn) : (pairs xs).map (·.1) = xs := by
 apply List.ext_getElem
 ·simp [pairs]
 ·intro i h1 h2
  simp only [pairs, List.getElem_map, List.getElem_range]
  rw [pt_at h2]
/-- No point is followed by an equal one. -/
def Dis : List Pn → Prop
 | [] => True
 | [_] => True
 | p :: q :: l => p ≠ q ∧ Dis (q :: l)
theorem dis_nodup : ∀ {l : List Pn}, l.Nodup → Dis l
 | [], _ => trivial
 | [_], _ => trivial
 | p :: q :: l, h => by
  obtain ⟨h1, h2⟩ := List.nodup_cons.1 h
  exact ⟨fun e => h1 (e ▸ List.mem_cons_self ..), dis_nodup h2⟩
theorem dis_join : ∀ {A : List Pn} {p : Pn} {B : List Pn}, Dis (A ++ [p]) → Dis (p :: B) → Dis (A ++ p :: B)
 | [], _, _, _, h => h
 | [a], p, B, h, h' => ⟨h.1, h'⟩
 | a :: b :: A, p, B, h, h' => ⟨h.1, dis_join (A := b :: A) h.2 h'⟩
theorem dis_at : ∀ {l : List Pn}, Dis l → ∀ j, j + 1 < l.length → pt l j ≠ pt l (j + 1)
 | [], _, j, h => absurd h (by simp)
 | [_], _, j, h => absurd h (by simp)
 | p :: q :: l, hd, 0, _ => hd.1
 | p :: q :: l, hd, j + 1, h => by
  have := dis_at hd.2 j (by simpa using h)
  simpa [pt, px, py] using this
theorem piece_form {hot : List Pn} {e : Pn × Pn} (h : e.1 ≠ e.2 ∧ e.1 ∈ hot ∧ e.2 ∈ hot) : ∃ mid, pieceP hot e = e.1 :: mid ∧ pathP e.1 e.2 hot = pieceP hot e ++ [e.2] := by
 obtain ⟨mid, hm⟩ := path_ends h.1 h.2.1 h.2.2
 refine ⟨mid, ?_, ?_⟩
 ·unfold pieceP
  rw [hm, ← List.cons_append, List.dropLast_concat]
 ·unfold pieceP
  rw [hm, ← List.cons_append, List.dropLast_concat]
theorem flat_dis {hot : List Pn} (hnd : hot.Nodup) : ∀ {es : List (Pn × Pn)} {e : Pn × Pn} {z : Pn}, Lk (e :: es) z → (∀ d ∈ e :: es, d.1 ≠ d.2 ∧ d.1 ∈ hot ∧ d.2 ∈ hot) → Dis ((e :: es).flatMap (pieceP hot) ++ [z]) ∧ ∃ rest, (e :: es).flatMap (pieceP hot) = e.1 :: rest
 | [], e, z, hl, hm => by
  obtain ⟨mid, h1, h2⟩ := piece_form (hm e (List.mem_cons_self ..))
  have hz : e.2 = z := hl
  simp only [List.flatMap_cons, List.flatMap_nil, List.append_nil]
  refine ⟨?_, mid, h1⟩
  rw [← hz, ← h2]
  exact dis_nodup (path_nodup hnd)
 | f :: l, e, z, hl, hm => by
  obtain ⟨mid, h1, h2⟩ := piece_form (hm e (List.mem_cons_self ..))
  obtain ⟨k1, rest, k2⟩ := flat_dis hnd (es := l) (e := f) (z := z) hl.2 (fun d hd => hm d (List.mem_cons_of_mem _ hd))
  rw [List.flatMap_cons]
  refine ⟨?_, mid ++ (f :: l).flatMap (pieceP hot), by rw [h1]; rfl⟩
  rw [List.append_assoc]
  rw [k2] at k1 ⊢
  refine dis_join (B := rest ++ [z]) ?_ k1
  rw [← hl.1, ← h2]
  exact dis_nodup (path_nodup hnd)
theorem flat_grow {hot : List Pn} : ∀ {es : List (Pn × Pn)}, (∀ d ∈ es, d.1 ≠ d.2 ∧ d.1 ∈ hot ∧ d.2 ∈ hot) → es.length ≤ (es.flatMap (pieceP hot)).length ∧ ((es.flatMap (pieceP hot)).length = es.length → es.flatMap (pieceP hot) = es.map (·.1))
 | [], _ => ⟨Nat.le_refl _, fun _ => rfl⟩
 | e :: l, h => by
  obtain ⟨mid, h1, _⟩ := piece_form (h e (List.mem_cons_self ..))
  obtain ⟨g1, g2⟩ := flat_grow (es := l) fun d hd => h d (List.mem_cons_of_mem _ hd)
  rw [List.flatMap_cons, h1, List.length_append, List.length_cons, List.length_cons]
  refine ⟨by omega, fun hle => ?_⟩
  obtain rfl : mid = [] := List.eq_nil_of_length_eq_zero (by omega)
  rw [g2 (by simp only [List.length_nil] at hle; omega), List.map_cons]
  rfl
theorem pairs_ok {hot xs : List Pn} (hb : bare xs) (hm : ∀ p ∈ xs, p ∈ hot) : ∀ d ∈ pairs xs, d.1 ≠ d.2 ∧ d.1 ∈ hot ∧ d.2 ∈ hot := fun d hd => by
 obtain ⟨j, hj, rfl⟩ := List.mem_map.1 hd
 have hj := List.mem_range.1 hj
 refine ⟨hb.2 j hj, hm _ ?_, hm _ ?_⟩
 ·rw [← pt_at hj]; exact List.getElem_mem _
 ·have hn : nx xs j < xs.length := Nat.mod_lt _ hb.1
  show pt xs (nx xs j) ∈ xs
  rw [← pt_at hn]; exact List.getElem_mem _
theorem snap_mem {hot xs : List Pn} {p : Pn} (h : p ∈ snapR hot xs) : p ∈ hot := by
 obtain ⟨l, _, hp⟩ := List.mem_flatMap.1 h
 exact (path_onWay.1 (List.dropLast_subset _ hp)).1
theorem bare_flat {hot : List Pn} (hnd : hot.Nodup) : ∀ {es : List (Pn × Pn)} {z : Pn}, Lk es z → (∀ d ∈ es, d.1 ≠ d.2 ∧ d.1 ∈ hot ∧ d.2 ∈ hot) → (∀ h : 0 < es.length, (es[0]'h).1 = z) → 0 < es.length → bare (es.flatMap (pieceP hot))
 | [], _, _, _, _, h => absurd h (by simp)
 | e :: l, z, hlk, hok, h0, hp => by
  obtain ⟨k1, rest, k2⟩ := flat_dis hnd hlk hok
  have he : e.1 = z := h0 hp
  generalize (e :: l).flatMap (pieceP hot) = ys at *
  refine ⟨by rw [k2]; simp, fun j hj => ?_⟩
  have hd := dis_at k1 j (by simp; omega)
  have e1 : pt (ys ++ [z]) j = pt ys j := by simp only [pt, px, py, List.getD_eq_getElem?_getD, List.getElem?_append_left hj]
  rw [e1] at hd
  by_cases hj1 : j + 1 < ys.length
  ·rw [show nx ys j = j + 1 from Nat.mod_eq_of_lt hj1]
   have e2 : pt (ys ++ [z]) (j + 1) = pt ys (j + 1) := by simp only [pt, px, py, List.getD_eq_getElem?_getD, List.getElem?_append_left hj1]
   rwa [e2] at hd
  ·have hjn : j + 1 = ys.length := by omega
   rw [show nx ys j = 0 by unfold nx; rw [hjn, Nat.mod_self]]
   have e2 : pt (ys ++ [z]) (j + 1) = z := by
    have e4 : (ys ++ [z])[j + 1]? = some z := by rw [List.getElem?_append_right (by omega), hjn, Nat.sub_self]; rfl
    simp only [pt, px, py, List.getD_eq_getElem?_getD, e4]
    rfl
   have e3 : pt ys 0 = z := by rw [k2, ← he]; rfl
   rw [e2] at hd
   rwa [e3]
theorem snap_bare {hot xs : List Pn} (hnd : hot.Nodup) (hb : bare xs) (hm : ∀ p ∈ xs, p ∈ hot) : bare (snapR hot xs) ∧ xs.length ≤ (snapR hot xs).length ∧ ((snapR hot xs).length = xs.length → snapR hot xs = xs) := by
 rw [snapR_pairs hb]
 have hok := pairs_ok hb hm
 obtain ⟨g1, g2⟩ := flat_grow hok
 rw [pairs_len] at g1 g2
 exact ⟨bare_flat hnd pairs_lk hok (fun h => by simp [pairs]) (by rw [pairs_len]; exact hb.1), g1, fun h => by rw [g2 h, pairs_fst]⟩

/-! ### Regions -/
def cnt (rs : List Ring_) : Nat := (rs.map List.length).sum
def snapG (hot : List Pn) (rs : List Ring_) : List Ring_ := rs.map (snapR hot)
def bareG (hot : List Pn) (rs : List Ring_) : Prop := ∀ r ∈ rs, bare r ∧ ∀ p ∈ r, p ∈ hot
theorem bareG.snap {hot : List Pn} {rs : List Ring_} (hnd : hot.Nodup) (h : bareG hot rs) : bareG hot (snapG hot rs) := fun r hr => by
 obtain ⟨q, hq, rfl⟩ := List.mem_map.1 hr
 exact ⟨(snap_bare hnd (h q hq).1 (h q hq).2).1, fun p hp => snap_mem hp⟩
theorem snap_grow {hot : List Pn} (hnd : hot.Nodup) : ∀ {rs : List Ring_}, bareG hot rs → cnt rs ≤ cnt (snapG hot rs) ∧ (cnt (snapG hot rs) = cnt rs → snapG hot rs = rs)
 | [], _ => ⟨Nat.le_refl _, fun _ => rfl⟩
 | r :: l, h => by
  obtain ⟨h1, h2⟩ := h r (List.mem_cons_self ..)
  obtain ⟨_, g1, g2⟩ := snap_bare hnd h1 h2
  obtain ⟨k1, k2⟩ := snap_grow hnd (rs := l) fun q hq => h q (List.mem_cons_of_mem _ hq)
  have e1 : cnt (snapG hot (r :: l)) = (snapR hot r).length + cnt (snapG hot l) := rfl
  have e2 : cnt (r :: l) = r.length + cnt l := rfl
  rw [e1, e2]
  refine ⟨by omega, fun he => ?_⟩
  have a1 := g2 (by omega)
  have a2 := k2 (by omega)
  show snapR hot r :: snapG hot l = r :: l
  rw [a1, a2]
theorem edges_bare_len {xs : List Pn} (h : bare xs) : (edgesR xs).length = xs.length := by rw [edges_bare h, List.length_map, pairs_len]
theorem edgesAll_cnt {rs : List Ring_} (h : ∀ r ∈ rs, bare r) : (edgesAll rs).length = cnt rs := by
 have key : ∀ k, k ≤ rs.length → (allTo rs k).length = cnt (rs.take k) := by
  intro k
  induction k with
  | zero => intro _; rfl
  | succ k ih =>
   intro hk
   have hb : bare (rg rs k) := by have := h rs[k] (List.getElem_mem (by omega)); rwa [at_r (by omega)] at this
   show (allTo rs k ++ edgesR (rg rs k)).length = _
   rw [List.length_append, ih (by omega), edges_bare_len hb, take_step (by omega)]
   simp [cnt]
 have := key rs.length (Nat.le_refl _)
 rwa [List.take_length] at this
theorem isPath_big (A : Option Addr) (n c : Nat) (xs : List (Int × Int)) (w : World) (h : Pts w A n xs) :
  Calls Tryz.prog 61 #[.slice A n c] w fun e w' => e = .returned (.bool (ringB xs)) ∧ Over w w' := by
 have hl := h.1
 refine walk_from (m := 15) (Tryz.func61) rfl rfl (Nat.le_of_ble_eq_true rfl) ?_
 refine at_seq ?_
 refine at_region ?_
 refine at_q rfl rfl (by decide) (qt_assign rfl rfl) ?_
 refine at_end ?_
 refine at_seq ?_
 refine at_region ?_
 refine at_q rfl rfl (by decide) (qt_move rfl rfl) ?_
 refine at_q rfl rfl (by decide) (qt_len rfl rfl tyl_sl_impl_Pt) ?_
 refine at_q rfl rfl (by decide) (qt_geq rfl rfl rfl) ?_
 refine at_q rfl rfl (by decide) (qt_move rfl rfl) ?_
 refine at_bsplit 6 rfl (fun g1 => ?_) (fun g1 => ?_)
 ·try simp only [za,zb,zc,zd,ze,zf,Bool.not_true,Bool.not_false,zg,zh,ne_eq,zi,zj] at g1
  have h1 : 1 ≤ n := (by omega)
  refine at_on rfl rfl rfl rfl ?_
  refine op_q rfl (by decide) (qt_move rfl rfl) ?_
  refine at_on rfl rfl rfl rfl ?_
  refine op_q rfl (by decide) (qt_len rfl rfl tyl_sl_impl_Pt) ?_
  refine at_on rfl rfl rfl rfl ?_
  refine op_q rfl (by decide) (qt_leq rfl rfl rfl) ?_
  refine at_q rfl rfl (by decide) (qt_pickT rfl rfl rfl) ?_
  refine at_q rfl rfl (by decide) (qt_move rfl rfl) ?_
  refine at_bsplit 11 rfl (fun g2 => ?_) (fun g2 => ?_)
  ·try simp only [za,zb,zc,zd,ze,zf,Bool.not_true,Bool.not_false,zg,zh,ne_eq,zi,zj] at g2
   have h2 : n ≤ 400 := (by omega)
   refine at_on rfl rfl rfl rfl ?_
   refine op_q rfl (by decide) (qt_move rfl rfl) ?_
   refine at_on rfl rfl rfl rfl ?_
   refine op_q rfl (by decide) (qt_call ok_impl_validPts rfl rfl (fun w1 hs => validPts_any A n c xs w1 (h.over hs.fin) (by omega))) ?_
   refine at_q rfl rfl (by decide) (qt_pickT rfl rfl rfl) ?_
   refine at_q rfl rfl (by decide) (qt_assign rfl rfl) ?_
   refine at_end ?_
   refine at_retc ?_
   refine at_ret1 rfl (.tmp rfl) ?_
   intro w' hs
   exact ⟨retB (by unfold ringB inB allOk; rw [hl, decide_eq_true (show (1 : Int) ≤ (n : Int) by omega), decide_eq_true (show (n : Int) ≤ 400 by omega)]; rfl), hs.fin⟩
  ·try simp only [za,zb,zc,zd,ze,zf,Bool.not_true,Bool.not_false,zg,zh,ne_eq,zi,zj] at g2
   refine at_off rfl rfl rfl rfl (by decide) rfl (by decide) ?_
   refine at_off rfl rfl rfl rfl (by decide) rfl (by decide) ?_
   refine at_q rfl rfl (by decide) (qt_pickF rfl rfl rfl) ?_
   refine at_q rfl rfl (by decide) (qt_assign rfl rfl) ?_
   refine at_end ?_
   refine at_retc ?_
   refine at_ret1 rfl (.tmp rfl) ?_
   intro w' hs
   exact ⟨retB (by unfold ringB inB; rw [hl, decide_eq_false (show ¬ (n : Int) ≤ 400 by omega), Bool.and_false, Bool.false_and]), hs.fin⟩
 ·try simp only [za,zb,zc,zd,ze,zf,Bool.not_true,Bool.not_false,zg,zh,ne_eq,zi,zj] at g1
  refine at_off rfl rfl rfl rfl (by decide) rfl (by decide) ?_
  refine at_off rfl rfl rfl rfl (by decide) rfl (by decide) ?_
  refine at_off rfl rfl rfl rfl (by decide) rfl (by decide) ?_
  refine at_q rfl rfl (by decide) (qt_pickF rfl rfl rfl) ?_
  refine at_q rfl rfl (by decide) (qt_move rfl rfl) ?_
  refine at_off rfl rfl rfl rfl (by decide) rfl (by decide) ?_
  refine at_off rfl rfl rfl rfl (by decide) rfl (by decide) ?_
  refine at_q rfl rfl (by decide) (qt_pickF rfl rfl rfl) ?_
  refine at_q rfl rfl (by decide) (qt_assign rfl rfl) ?_
  refine at_end ?_
  refine at_retc ?_
  refine at_ret1 rfl (.tmp rfl) ?_
  intro w' hs
  exact ⟨retB (by unfold ringB inB; rw [hl, decide_eq_false (show ¬ (1 : Int) ≤ (n : Int) by omega)]; rfl), hs.fin⟩
 -- NOT USED: leaf4
theorem ValidRing_big (A : Option Addr) (n c : Nat) (xs : List (Int × Int)) (w : World) (h : Pts w A n xs) :
  Calls Tryz.prog 36 #[ringV A n c] w fun e w' => e = .returned (.bool (ringB xs)) ∧ Over w w' := by
 refine walk_from (m := 6) (Tryz.func36) rfl rfl (Nat.le_of_ble_eq_true rfl) ?_
 refine at_seq ?_
 refine at_region ?_
 refine at_op rfl ?_
 refine op_box rfl rfl (rfl) rfl (by decide) (fun b1 => ?_)
 refine at_rsE (by simp only [ya,yb,yc,yd,Value.cells,ye]; rfl) ?_
 refine at_q rfl rfl (by decide) (qt_assign rfl rfl) ?_
 refine at_end ?_
 refine at_seq ?_
 refine at_region ?_
 refine at_q rfl rfl (by decide) (qt_fieldAddr rfl rfl tyf_impl_Ring_0) ?_
 refine at_q rfl rfl (by decide) (qt_load1 rfl rfl ty1_sl_impl_Pt (rd1 (k := 0) rfl rfl)) ?_
 refine at_q rfl rfl (by decide) (qt_call ok_impl_isPath rfl rfl (fun w1 hs => isPath_big A n c xs w1 (h.over hs.fin))) ?_
 refine at_q rfl rfl (by decide) (qt_assign rfl rfl) ?_
 refine at_end ?_
 refine at_retc ?_
 refine at_ret1 rfl (.tmp rfl) ?_
 intro w' hs
 exact ⟨rfl, hs.fin⟩
theorem l13Ring_big (b o : Nat) (A : Option Addr) (n c : Nat) (xs : List (Int × Int)) (w : World) (hc : w.cell? ⟨b, o, none⟩ = some (.slice A n c)) (hb : b < w.heap.size) (h : Pts w A n xs) :
  Calls Tryz.prog 27 #[.pointer (some ⟨b, o, none⟩)] w fun e w' => e = .returned (.bool (ringB xs)) ∧ Over w w' := by
 have hl := h.1
 refine walk_from (m := 16) (Tryz.func27) rfl rfl (Nat.le_of_ble_eq_true rfl) ?_
 refine at_seq ?_
 refine at_region ?_
 refine at_q rfl rfl (by decide) (qt_assign rfl rfl) ?_
 refine at_end ?_
 refine at_seq ?_
 refine at_region ?_
 refine at_q rfl rfl (by decide) (qt_move rfl rfl) ?_
 refine at_q rfl rfl (by decide) (qt_nilCheck rfl rfl) ?_
 refine at_q rfl rfl (by decide) (qt_fieldAddr rfl rfl tyf_impl_Ring_0) ?_
 refine at_q rfl rfl (by decide) (qt_load1 rfl rfl ty1_sl_impl_Pt (rdOld0 hc hb)) ?_
 refine at_q rfl rfl (by decide) (qt_len rfl rfl tyl_sl_impl_Pt) ?_
 refine at_q rfl rfl (by decide) (qt_call ok_spec_l00In rfl rfl (fun w1 hs => Calls.still (l00In_any (n : Int) 1 400 w1))) ?_
 refine at_q rfl rfl (by decide) (qt_move rfl rfl) ?_
 refine at_bsplit 9 rfl (fun g1 => ?_) (fun g1 => ?_)
 ·try simp only [za,zb,zc,zd,ze,zf,Bool.not_true,Bool.not_false,zg,zh,ne_eq,zi,zj] at g1
  have h2 : n ≤ 400 := (by unfold inB at g1; simp only [Bool.and_eq_true, decide_eq_true_eq] at g1; omega)
  refine at_on rfl rfl rfl rfl ?_
  refine op_q rfl (by decide) (qt_move rfl rfl) ?_
  refine at_on rfl rfl rfl rfl ?_
  refine op_q rfl (by decide) (qt_nilCheck rfl rfl) ?_
  refine at_on rfl rfl rfl rfl ?_
  refine op_q rfl (by decide) (qt_fieldAddr rfl rfl tyf_impl_Ring_0) ?_
  refine at_on rfl rfl rfl rfl ?_
  refine op_q rfl (by decide) (qt_load1 rfl rfl ty1_sl_impl_Pt (rdOld0 hc hb)) ?_
  refine at_on rfl rfl rfl rfl ?_
  refine op_q rfl (by decide) (qt_call ok_spec_l13Points rfl rfl (fun w1 hs => l13Points_any A n c xs w1 (h.over hs.fin) (by omega))) ?_
  refine at_q rfl rfl (by decide) (qt_pickT rfl rfl rfl) ?_
  refine at_q rfl rfl (by decide) (qt_assign rfl rfl) ?_
  refine at_end ?_
  refine at_retc ?_
  refine at_ret1 rfl (.tmp rfl) ?_
  intro w' hs
  exact ⟨retB (by unfold ringB; rw [hl, g1]; rfl), hs.fin⟩
 ·try simp only [za,zb,zc,zd,ze,zf,Bool.not_true,Bool.not_false,zg,zh,ne_eq,zi,zj] at g1
  refine at_off rfl rfl rfl rfl (by decide) rfl (by decide) ?_
  refine at_off rfl rfl rfl rfl (by decide) rfl (by decide) ?_
  refine at_off rfl rfl rfl rfl (by decide) rfl (by decide) ?_
  refine at_off rfl rfl rfl rfl (by decide) rfl (by decide) ?_
  refine at_off rfl rfl rfl rfl (by decide) rfl (by decide) ?_
  refine at_q rfl rfl (by decide) (qt_pickF rfl rfl rfl) ?_
  refine at_q rfl rfl (by decide) (qt_assign rfl rfl) ?_
  refine at_end ?_
  refine at_retc ?_
  refine at_ret1 rfl (.tmp rfl) ?_
  intro w' hs
  exact ⟨retB (by unfold ringB; rw [hl, g1]; rfl), hs.fin⟩
theorem all_at {rs : List Ring_} (h : rs.all ringB = true) {k : Nat} (hk : k < rs.length) : ringB (rg rs k) = true := by
 have := List.all_eq_true.1 h rs[k] (List.getElem_mem hk)
 rwa [at_r hk] at this
theorem allTo_small {rs : List Ring_} : ∀ {k : Nat}, k ≤ rs.length → (rs.take k).all ringB = true → (allTo rs k).length ≤ 400 * k
 | 0, _, _ => Nat.le_refl _
 | k + 1, hk, h => by
  rw [take_step (by omega), List.all_append, Bool.and_eq_true] at h
  have h2 : ringB (rg rs k) = true := by simpa using h.2
  have := allTo_small (k := k) (by omega) h.1
  have := pos_of_ring h2
  have := edgesTo_len (rg rs k) (rg rs k).length
  show (allTo rs k ++ edgesR (rg rs k)).length ≤ _
  rw [List.length_append]
  unfold edgesR
  omega
theorem sumTo_small {rs : List Ring_} (h : rs.all ringB = true) : ∀ k, k ≤ rs.length → sumTo rs k ≤ 400 * k
 | 0, _ => Nat.le_refl _
 | k + 1, hk => by
  have := sumTo_small h k (by omega)
  have := pos_of_ring (all_at h (show k < rs.length by omega))
  rw [sumTo]
  omega
theorem ValidRegion_big (A : Option Addr) (n c : Nat) (rs : List Ring_) (w : World) (h : Rings w A n rs) (hm : (n : Int) ≤ 9223372036854775807) :
  Calls Tryz.prog 18 #[regV A n c] w fun e w' => e = .returned (.bool (regionB rs)) ∧ Over w w' := by
 have hl := h.1
 refine walk_from (m := 28) (Tryz.func18) rfl rfl (Nat.le_of_ble_eq_true rfl) ?_
 refine at_seq ?_
 refine at_region ?_
 refine at_op rfl ?_
 refine op_box rfl rfl (rfl) rfl (by decide) (fun b1 => ?_)
 refine at_rsE (by simp only [ya,yb,yc,yd,Value.cells,ye]; rfl) ?_
 refine at_q rfl rfl (by decide) (qt_assign rfl rfl) ?_
 refine at_end ?_
 refine at_seq ?_
 refine at_seq ?_
 refine at_region ?_
 refine at_q rfl rfl (by decide) (qt_fieldAddr rfl rfl tyf_impl_Region_0) ?_
 refine at_q rfl rfl (by decide) (qt_load1 rfl rfl ty1_sl_impl_Ring (rd1 (k := 0) rfl rfl)) ?_
 refine at_q rfl rfl (by decide) (qt_len rfl rfl tyl_sl_impl_Ring) ?_
 refine at_q rfl rfl (by decide) (qt_gtr rfl rfl rfl) ?_
 refine at_end ?_
 refine at_cond rfl (fun c1 => ?_) (fun c1 => ?_)
 ·try simp only [za,zb,zc,zd,ze,zf,Bool.not_true,Bool.not_false,zg,zh,ne_eq,zi,zj] at c1
  refine at_seq ?_
  refine at_region ?_
  refine at_q rfl rfl (by decide) (qt_assign rfl rfl) ?_
  refine at_end ?_
  refine at_retc ?_
  refine then_ret ?_
  refine at_ret1 rfl (.tmp rfl) ?_
  intro w' hs
  exact ⟨retB (regionB_long (by omega)).symm, hs.fin⟩
 ·try simp only [za,zb,zc,zd,ze,zf,Bool.not_true,Bool.not_false,zg,zh,ne_eq,zi,zj] at c1
  have h40 : n ≤ 40 := (by omega)
  refine at_skip ?_
  refine norm_then ?_
  refine at_seq ?_
  refine at_region ?_
  refine at_q rfl rfl (by decide) (qt_assign rfl rfl) ?_
  refine at_end ?_
  refine at_seq ?_
  refine at_seq ?_
  refine at_region ?_
  refine at_q rfl rfl (by decide) (qt_fieldAddr rfl rfl tyf_impl_Region_0) ?_
  refine at_q rfl rfl (by decide) (qt_load1 rfl rfl ty1_sl_impl_Ring (rd1 (k := 0) rfl rfl)) ?_
  refine at_q rfl rfl (by decide) (qt_len rfl rfl tyl_sl_impl_Ring) ?_
  refine at_q rfl rfl (by decide) (qt_move rfl rfl) ?_
  refine at_end ?_
  refine at_block ?_
  refine at_loopk (X := Nat) (fun k => k ≤ n ∧ (rs.take k).all ringB = true) (fun k => n - k) (fun k => [(3, .int .i64 ((allTo rs k).length : Int)), (13, .int .i64 (k : Int))]) (C := [(2, _), (11, _), (12, _)]) ⟨rfl, rfl, rfl, trivial⟩ 0 (⟨Nat.zero_le _, rfl⟩) ⟨rfl, rfl, rfl, rfl, rfl, trivial⟩ ?_
  intro k hk L hL1
  refine at_envE (by simp only [ya,yb]; rfl) ?_
  obtain ⟨hk1, hk2⟩ := hk
  refine at_seq ?_
  refine at_region ?_
  refine at_q rfl rfl (by decide) (qt_lss rfl rfl rfl) ?_
  refine at_end ?_
  refine at_seq ?_
  refine at_cond rfl (fun c2 => ?_) (fun c2 => ?_)
  ·try simp only [za,zb,zc,zd,ze,zf,Bool.not_true,Bool.not_false,zg,zh,ne_eq,zi,zj] at c2
   have hlt : k < n := (by omega)
   obtain ⟨bb, oo, Ak, ck, rfl, hbB, hcell, hpts, hmax⟩ := h.at_ hlt
   have hsum := allTo_small (show k ≤ rs.length by omega) hk2
   refine at_skip ?_
   refine norm_then ?_
   refine at_seq ?_
   refine at_block ?_
   refine at_seq ?_
   refine at_region ?_
   refine at_q rfl rfl (by decide) (qt_index rfl rfl rfl tyl_sl_impl_Ring (by omega)) ?_
   refine at_q rfl rfl (by decide) (qt_loadS rfl rfl tys_impl_Ring rfl (rdOld1 hcell hbB)) ?_
   refine at_op rfl ?_
   refine op_alloc rfl tyz_impl_Ring rfl (by decide) (fun b2 => ?_)
   refine at_rsE (by simp only [ya,yb,yc,yd,Value.cells,ye]; rfl) ?_
   refine at_op rfl ?_
   refine op_storeAll' (k := 1) rfl rfl rfl rfl (rfl) (by rfl) tyz_impl_Ring.szx rfl rfl rfl ?_
   refine at_rsE (by simp only [ya,yb,yc,yd,Value.cells,ye]; rfl) ?_
   refine at_end ?_
   refine at_seq ?_
   refine at_seq ?_
   refine at_region ?_
   refine at_q rfl rfl (by decide) (qt_loadS rfl rfl tys_impl_Ring rfl (rdAll (k := 1) rfl)) ?_
   refine at_q rfl rfl (by decide) (qt_call ok_impl_ValidRing rfl rfl (fun w1 hs => ValidRing_big Ak _ ck (rg rs k) w1 (hpts.over hs.fin))) ?_
   refine at_q rfl rfl (by decide) (qt_not rfl rfl) ?_
   refine at_end ?_
   refine at_cond rfl (fun c3 => ?_) (fun c3 => ?_)
   ·try simp only [za,zb,zc,zd,ze,zf,Bool.not_true,Bool.not_false,zg,zh,ne_eq,zi,zj] at c3
    refine at_seq ?_
    refine at_region ?_
    refine at_q rfl rfl (by decide) (qt_assign rfl rfl) ?_
    refine at_end ?_
    refine at_retc ?_
    refine then_ret ?_
    refine pass_ret ?_
    refine then_ret ?_
    refine then_ret ?_
    refine pass_ret ?_
    refine then_ret ?_
    refine at_ret1 rfl (.tmp rfl) ?_
    intro w' hs
    exact ⟨retB (regionB_bad (show k < rs.length by omega) c3).symm, hs.fin⟩
   ·try simp only [za,zb,zc,zd,ze,zf,Bool.not_true,Bool.not_false,zg,zh,ne_eq,zi,zj] at c3
    have hp := pos_of_ring c3
    have he := edgesTo_len (rg rs k) (rg rs k).length
    have hs2 : (allTo rs (k + 1)).length = (allTo rs k).length + (edgesR (rg rs k)).length := List.length_append
    have he' : (edgesR (rg rs k)).length ≤ (rg rs k).length := he
    refine at_skip ?_
    refine norm_then ?_
    refine at_region ?_
    refine at_q rfl rfl (by decide) (qt_move rfl rfl) ?_
    refine at_q rfl rfl (by decide) (qt_loadS rfl rfl tys_impl_Ring rfl (rdAll (k := 1) rfl)) ?_
    refine at_op rfl ?_
    refine op_call ok_impl_edgesOfRing (v := fun x => .slice x.1 _ x.2) (r := fun x => rowR 0 77 4 _ _ x) (H := fun _ => True) rfl rfl rfl (by decide) (fun w1 hs => newRow' (edgesOfRing_any Ak _ ck (rg rs k) w1 (hpts.over hs.fin) (by omega))) ?_
    rintro ⟨eA, ec⟩ -
    refine at_rsE (by simp only [ya,yb,yc,yd,Value.cells,ye]; rfl) ?_
    refine at_q rfl rfl (by decide) (qt_len rfl rfl tyl_sl_impl_leg) ?_
    refine at_q rfl rfl (by decide) (qt_add rfl rfl rfl (by omega) (by omega)) ?_
    refine at_q rfl rfl (by decide) (qt_assign rfl rfl) ?_
    refine at_nil ?_
    refine norm_block ?_
    refine norm_then ?_
    refine at_region ?_
    refine at_q rfl rfl (by decide) (qt_add rfl rfl rfl (by omega) (by omega)) ?_
    refine at_q rfl rfl (by decide) (qt_move rfl rfl) ?_
    refine at_end ?_
    exact at_againk hL1 (k + 1) (⟨by omega, take_all (by omega) hk2 c3⟩) (by omega) ⟨vi (by rw [hs2]; omega), vi (by omega), rfl, rfl, rfl, trivial⟩ (fun _ h => h.upto ⟨rfl, trivial⟩)
  ·try simp only [za,zb,zc,zd,ze,zf,Bool.not_true,Bool.not_false,zg,zh,ne_eq,zi,zj] at c2
   have hkn : k = n := (by omega)
   refine at_exit ?_
   refine pass_then (fun h => by cases h) ?_
   refine pass_then (fun h => by cases h) ?_
   refine pass_hit ?_
   refine norm_then ?_
   refine at_seq ?_
   refine at_region ?_
   refine at_q rfl rfl (by decide) (qt_move rfl rfl) ?_
   refine at_q rfl rfl (by decide) (qt_leq rfl rfl rfl) ?_
   refine at_q rfl rfl (by decide) (qt_assign rfl rfl) ?_
   refine at_end ?_
   refine at_retc ?_
   refine at_ret1 rfl (.tmp rfl) ?_
   intro w' hs
   have ha : rs.all ringB = true := (by rw [List.take_of_length_le (by omega)] at hk2; exact hk2)
   exact ⟨retB (by rw [regionB_ok (by omega) ha]; unfold edgesAll; rw [hl, ← hkn]; exact decide_eq_decide.2 (by omega)), hs.fin⟩
theorem l13Ok_big (b1 o1 : Nat) (A : Option Addr) (n c : Nat) (rs : List Ring_) (w : World) (hcell : w.cell? ⟨b1, o1, none⟩ = some (.slice A n c)) (hb1 : b1 < w.heap.size) (h : Rings w A n rs) (hm : (n : Int) ≤ 9223372036854775807) :
  Calls Tryz.prog 12 #[.pointer (some ⟨b1, o1, none⟩)] w fun e w' => e = .returned (.bool (regionB rs)) ∧ Over w w' := by
 have hl := h.1
 refine walk_from (m := 31) (Tryz.func12) rfl rfl (Nat.le_of_ble_eq_true rfl) ?_
 refine at_seq ?_
 refine at_region ?_
 refine at_q rfl rfl (by decide) (qt_assign rfl rfl) ?_
 refine at_end ?_
 refine at_seq ?_
 refine at_seq ?_
 refine at_region ?_
 refine at_q rfl rfl (by decide) (qt_move rfl rfl) ?_
 refine at_q rfl rfl (by decide) (qt_nilCheck rfl rfl) ?_
 refine at_q rfl rfl (by decide) (qt_fieldAddr rfl rfl tyf_impl_Region_0) ?_
 refine at_q rfl rfl (by decide) (qt_load1 rfl rfl ty1_sl_impl_Ring (rdOld0 hcell hb1)) ?_
 refine at_q rfl rfl (by decide) (qt_len rfl rfl tyl_sl_impl_Ring) ?_
 refine at_q rfl rfl (by decide) (qt_gtr rfl rfl rfl) ?_
 refine at_end ?_
 refine at_cond rfl (fun c1 => ?_) (fun c1 => ?_)
 ·try simp only [za,zb,zc,zd,ze,zf,Bool.not_true,Bool.not_false,zg,zh,ne_eq,zi,zj] at c1
  refine at_seq ?_
  refine at_region ?_
  refine at_q rfl rfl (by decide) (qt_assign rfl rfl) ?_
  refine at_end ?_
  refine at_retc ?_
  refine then_ret ?_
  refine at_ret1 rfl (.tmp rfl) ?_
  intro w' hs
  exact ⟨retB (regionB_long (by omega)).symm, hs.fin⟩
 ·try simp only [za,zb,zc,zd,ze,zf,Bool.not_true,Bool.not_false,zg,zh,ne_eq,zi,zj] at c1
  have h40 : n ≤ 40 := (by omega)
  refine at_skip ?_
  refine norm_then ?_
  refine at_seq ?_
  refine at_seq ?_
  refine at_region ?_
  refine at_q rfl rfl (by decide) (qt_assign rfl rfl) ?_
  refine at_end ?_
  refine at_block ?_
  refine at_loopk (X := Nat) (fun k => k ≤ n ∧ (rs.take k).all ringB = true) (fun k => n - k) (fun k => [(3, .int .i64 (k : Int))]) (C := [(0, _), (2, _)]) ⟨rfl, rfl, trivial⟩ 0 (⟨Nat.zero_le _, rfl⟩) ⟨rfl, rfl, rfl, trivial⟩ ?_
  intro k hk L hL1
  refine at_envE (by simp only [ya,yb]; rfl) ?_
  obtain ⟨hk1, hk2⟩ := hk
  refine at_seq ?_
  refine at_seq ?_
  refine at_region ?_
  refine at_q rfl rfl (by decide) (qt_move rfl rfl) ?_
  refine at_q rfl rfl (by decide) (qt_move rfl rfl) ?_
  refine at_q rfl rfl (by decide) (qt_nilCheck rfl rfl) ?_
  refine at_q rfl rfl (by decide) (qt_fieldAddr rfl rfl tyf_impl_Region_0) ?_
  refine at_q rfl rfl (by decide) (qt_load1 rfl rfl ty1_sl_impl_Ring (rdOld0 hcell hb1)) ?_
  refine at_q rfl rfl (by decide) (qt_len rfl rfl tyl_sl_impl_Ring) ?_
  refine at_q rfl rfl (by decide) (qt_lss rfl rfl rfl) ?_
  refine at_end ?_
  refine at_cond rfl (fun c2 => ?_) (fun c2 => ?_)
  ·try simp only [za,zb,zc,zd,ze,zf,Bool.not_true,Bool.not_false,zg,zh,ne_eq,zi,zj] at c2
   have hlt : k < n := (by omega)
   obtain ⟨bb, oo, Ak, ck, rfl, hbB, hcl, hpts, hmax⟩ := h.at_ hlt
   refine at_skip ?_
   refine norm_then ?_
   refine at_seq ?_
   refine at_block ?_
   refine at_seq ?_
   refine at_region ?_
   refine at_q rfl rfl (by decide) (qt_move rfl rfl) ?_
   refine at_q rfl rfl (by decide) (qt_nilCheck rfl rfl) ?_
   refine at_q rfl rfl (by decide) (qt_fieldAddr rfl rfl tyf_impl_Region_0) ?_
   refine at_q rfl rfl (by decide) (qt_load1 rfl rfl ty1_sl_impl_Ring (rdOld0 hcell hb1)) ?_
   refine at_q rfl rfl (by decide) (qt_move rfl rfl) ?_
   refine at_q rfl rfl (by decide) (qt_index rfl rfl rfl tyl_sl_impl_Ring (by omega)) ?_
   refine at_q rfl rfl (by decide) (qt_call ok_spec_l13Ring rfl rfl (fun w1 hs => l13Ring_big bb (oo + k * 1) Ak _ ck (rg rs k) w1 (by rw [Nat.mul_one]; exact rdOld hcl hbB w1 hs) (Nat.lt_of_lt_of_le hbB hs.fin.size) (hpts.over hs.fin))) ?_
   refine at_q rfl rfl (by decide) (qt_not rfl rfl) ?_
   refine at_end ?_
   refine at_cond rfl (fun c3 => ?_) (fun c3 => ?_)
   ·try simp only [za,zb,zc,zd,ze,zf,Bool.not_true,Bool.not_false,zg,zh,ne_eq,zi,zj] at c3
    refine at_seq ?_
    refine at_region ?_
    refine at_q rfl rfl (by decide) (qt_assign rfl rfl) ?_
    refine at_end ?_
    refine at_retc ?_
    refine pass_ret ?_
    refine then_ret ?_
    refine then_ret ?_
    refine pass_ret ?_
    refine then_ret ?_
    refine at_ret1 rfl (.tmp rfl) ?_
    intro w' hs
    exact ⟨retB (regionB_bad (show k < rs.length by omega) c3).symm, hs.fin⟩
   ·try simp only [za,zb,zc,zd,ze,zf,Bool.not_true,Bool.not_false,zg,zh,ne_eq,zi,zj] at c3
    refine at_skip ?_
    refine norm_block ?_
    refine norm_then ?_
    refine at_region ?_
    refine at_q rfl rfl (by decide) (qt_move rfl rfl) ?_
    refine at_q rfl rfl (by decide) (qt_add rfl rfl rfl (by omega) (by omega)) ?_
    refine at_q rfl rfl (by decide) (qt_assign rfl rfl) ?_
    refine at_end ?_
    exact at_againk hL1 (k + 1) (⟨by omega, take_all (by omega) hk2 c3⟩) (by omega) ⟨vi (by omega), rfl, rfl, trivial⟩ (fun _ h => h.upto trivial)
  ·try simp only [za,zb,zc,zd,ze,zf,Bool.not_true,Bool.not_false,zg,zh,ne_eq,zi,zj] at c2
   have hkn : k = n := (by omega)
   have ha : rs.all ringB = true := (by rw [List.take_of_length_le (by omega)] at hk2; exact hk2)
   have hsm := sumTo_small ha rs.length (Nat.le_refl _)
   have htot : (total rs : Int) ≤ 1048577 := (by unfold total; omega)
   have hal := allTo_small (rs := rs) (k := rs.length) (Nat.le_refl _) (by rw [List.take_length]; exact ha)
   refine at_exit ?_
   refine pass_then (fun h => by cases h) ?_
   refine pass_then (fun h => by cases h) ?_
   refine pass_hit ?_
   refine norm_then ?_
   refine at_seq ?_
   refine at_region ?_
   refine at_q rfl rfl (by decide) (qt_move rfl rfl) ?_
   refine at_op rfl ?_
   refine op_call ok_spec_l13All (v := fun x => .slice x.1 _ x.2) (r := fun x => rowR 0 66 4 _ _ x) (H := fun _ => True) rfl rfl rfl (by decide) (fun w1 hs => newRow' ((l13All_any b1 o1 A n c rs w1 (rdOld hcell hb1 w1 hs) (Nat.lt_of_lt_of_le hb1 hs.fin.size) (h.over hs.fin) htot).mono fun e w' ⟨v, h1, _, h2, h3⟩ => ⟨v, h1, h2, h3⟩)) ?_
   rintro ⟨eA, ec⟩ -
   refine at_rsE (by simp only [ya,yb,yc,yd,Value.cells,ye]; rfl) ?_
   refine at_q rfl rfl (by decide) (qt_len rfl rfl tyl_sl_spec_l13Edge) ?_
   refine at_q rfl rfl (by decide) (qt_leq rfl rfl rfl) ?_
   refine at_q rfl rfl (by decide) (qt_assign rfl rfl) ?_
   refine at_end ?_
   refine at_retc ?_
   refine at_ret1 rfl (.tmp rfl) ?_
   intro w' hs
   exact ⟨retB (by rw [regionB_ok (by omega) ha]; exact decide_eq_decide.2 (by omega)), hs.fin⟩
/-- The points of a ring that are not followed by an equal one. -/
def keepTo (xs : List Pn) (k : Nat) : List Pn := (edgesTo xs k).map lA
def keepR (xs : List Pn) : List Pn := keepTo xs xs.length
theorem lk_more : ∀ {es : List (Pn × Pn)} {p q : Pn}, Lk es p → Lk (es ++ [(p, q)]) q
 | [], _, _, _ => rfl
 | [e], p, q, h => ⟨h, rfl⟩
 | e :: f :: l, p, q, h => ⟨h.1, lk_more (es := f :: l) h.2⟩
def legE (l : Leg) : Pn × Pn := (lA l, lB l)
/-- What the edges up to k come to. -/
theorem edges_lk {xs : List Pn} : ∀ k, k < xs.length → Lk ((edgesTo xs k).map legE) (pt xs k) ∧ ((edgesTo xs k) = [] → pt xs k = pt xs 0) ∧ (∀ e, ((edgesTo xs k).map legE).head? = some e → e.1 = pt xs 0)
 | 0, _ => ⟨trivial, fun _ => rfl, fun e h => by cases h⟩
 | k + 1, hk => by
  obtain ⟨h1, h2, h3⟩ := edges_lk (xs := xs) k (by omega)
  have hn : nx xs k = k + 1 := Nat.mod_eq_of_lt hk
  rw [edgesTo_succ]
  split
  ·rename_i h
   have e : pt xs k = pt xs (k + 1) := by rw [hn] at h; exact Prod.ext h.1 h.2
   exact ⟨e ▸ h1, fun h' => e ▸ h2 h', h3⟩
  ·rw [List.map_append, hn]
   refine ⟨lk_more h1, fun h' => by simp at h', fun e he => ?_⟩
   cases hE : edgesTo xs k with
   | nil =>
    rw [hE] at he
    have : (pt xs k, pt xs (k + 1)) = e := Option.some.inj he
    rw [← this]
    exact h2 hE
   | cons a l =>
    rw [hE] at he h3
    exact h3 e (by simpa using he)
theorem edges_all {xs : List Pn} (h0 : 0 < xs.length) : Lk ((edgesR xs).map legE) (pt xs 0) ∧ ∀ e, ((edgesR xs).map legE).head? = some e → e.1 = pt xs 0 := by
 obtain ⟨m, hm⟩ : ∃ m, xs.length = m + 1 := ⟨xs.length - 1, by omega⟩
 obtain ⟨h1, h2, h3⟩ := edges_lk (xs := xs) m (by omega)
 have hn : nx xs m = 0 := by unfold nx; rw [hm, Nat.mod_self]
 unfold edgesR
 rw [hm, edgesTo_succ]
 split
 ·rename_i h
  have e : pt xs m = pt xs 0 := by rw [hn] at h; exact Prod.ext h.1 h.2
  exact ⟨e ▸ h1, h3⟩
 ·rw [List.map_append, hn]
  refine ⟨lk_more h1, fun e he => ?_⟩
  cases hE : edgesTo xs m with
  | nil =>
   rw [hE] at he
   have : (pt xs m, pt xs 0) = e := Option.some.inj he
   rw [← this]
   exact h2 hE
  | cons a l =>
   rw [hE] at he h3
   exact h3 e (by simpa using he)
theorem lk_at : ∀ {es : List (Pn × Pn)} {z : Pn}, Lk es z → (∀ i (h : i + 1 < es.length), (es[i]'(by omega)).2 = es[i + 1].1) ∧ (∀ h : 0 < es.length, (es[es.length - 1]'(by omega)).2 = z)
 | [], _, _ => ⟨fun i h => absurd h (by simp), fun h => absurd h (by simp)⟩
 | [e], z, hl => ⟨fun i h => absurd h (by simp), fun _ => hl⟩
 | e :: f :: l, z, hl => by
  obtain ⟨g1, g2⟩ := lk_at (es := f :: l) hl.2
  refine ⟨fun i h => ?_, fun _ => ?_⟩
  ·cases i with
   | zero => exact hl.1
   | succ i => have := g1 i (by simpa using h); simpa using this
  ·have := g2 (by simp)
   simpa using this
theorem bare_of {es : List (Pn × Pn)} {z : Pn} (h1 : Lk es z) (h2 : ∀ e, es.head? = some e → e.1 = z) (hall : ∀ d ∈ es, d.1 ≠ d.2) (hk : 0 < es.length) : bare (es.map (·.1)) := by
 obtain ⟨g1, g2⟩ := lk_at h1
 have hp : ∀ j (hj : j < es.length), pt (es.map (·.1)) j = es[j].1 := fun j hj => by
  rw [← pt_at (by simpa using hj)]
  simp
 refine ⟨by simpa using hk, fun j hj => ?_⟩
 rw [List.length_map] at hj
 rw [hp j hj]
 by_cases hj1 : j + 1 < es.length
 ·rw [show nx (es.map (·.1)) j = j + 1 from Nat.mod_eq_of_lt (by simpa using hj1), hp _ hj1, ← g1 j hj1]
  exact hall _ (List.getElem_mem _)
 ·have hjn : j + 1 = es.length := by omega
  rw [show nx (es.map (·.1)) j = 0 by unfold nx; rw [List.length_map, hjn, Nat.mod_self], hp 0 hk]
  have hz : (es[0]'hk).1 = z := h2 _ (by cases es with | nil => simp at hk | cons a l => rfl)
  rw [hz, ← g2 hk]
  have : es.length - 1 = j := by omega
  simp only [this]
  exact hall _ (List.getElem_mem _)
theorem keep_bare {xs : List Pn} (h0 : 0 < xs.length) (hk : 0 < (keepR xs).length) : bare (keepR xs) := by
 obtain ⟨h1, h2⟩ := edges_all h0
 have hne := edgesTo_ne xs xs.length
 have hne' : ∀ l ∈ edgesR xs, lA l ≠ lB l := hne
 have e : keepR xs = ((edgesR xs).map legE).map (·.1) := by unfold keepR keepTo edgesR; rw [List.map_map]; rfl
 have hall : ∀ d ∈ (edgesR xs).map legE, d.1 ≠ d.2 := fun d hd => by
  obtain ⟨l, hl, rfl⟩ := List.mem_map.1 hd
  exact hne' l hl
 rw [e] at hk ⊢
 rw [List.length_map] at hk
 exact bare_of h1 h2 hall hk
/-- The rings of a region, bare, without those that have no edge. -/
def bareTo (rs : List Ring_) (k : Nat) : List Ring_ := ((rs.take k).map keepR).filter fun r => decide (0 < r.length)
def bareRs (rs : List Ring_) : List Ring_ := bareTo rs rs.length
theorem bareTo_yes {rs : List Ring_} {k : Nat} (hk : k < rs.length) (h : 0 < (keepR (rg rs k)).length) : bareTo rs (k + 1) = bareTo rs k ++ [keepR (rg rs k)] := by
 unfold bareTo
 rw [take_step hk, List.map_append, List.filter_append]
 simp [h]
theorem bareTo_no {rs : List Ring_} {k : Nat} (hk : k < rs.length) (h : ¬ 0 < (keepR (rg rs k)).length) : bareTo rs (k + 1) = bareTo rs k := by
 unfold bareTo
 rw [take_step hk, List.map_append, List.filter_append]
 have : (keepR (rg rs k)).length = 0 := by omega
 simp [List.eq_nil_of_length_eq_zero this]
theorem bareTo_len (rs : List Ring_) (k : Nat) : (bareTo rs k).length ≤ rs.length := by
 unfold bareTo
 refine Nat.le_trans (List.length_filter_le _ _) ?_
 rw [List.length_map, List.length_take]
 omega
theorem bareTo_mem {rs : List Ring_} {k : Nat} {r : Ring_} (h : r ∈ bareTo rs k) : 0 < r.length ∧ ∃ q ∈ rs, keepR q = r := by
 unfold bareTo at h
 rw [List.mem_filter] at h
 obtain ⟨q, hq, e⟩ := List.mem_map.1 h.1
 exact ⟨by simpa using h.2, q, List.mem_of_mem_take hq, e⟩
theorem keep_len (xs : List Pn) (k : Nat) : (keepTo xs k).length ≤ k := by
 unfold keepTo
 rw [List.length_map]
 exact edgesTo_len xs k
theorem keepTo_yes {xs : List Pn} {k : Nat} (h : pt xs k ≠ pt xs (nx xs k)) : keepTo xs (k + 1) = keepTo xs k ++ [pt xs k] := by
 unfold keepTo
 rw [edgesTo_succ, if_neg (fun e => h (Prod.ext e.1 e.2)), List.map_append]
 rfl
theorem keepTo_no {xs : List Pn} {k : Nat} (h : pt xs k = pt xs (nx xs k)) : keepTo xs (k + 1) = keepTo xs k := by
 unfold keepTo
 simp only [pt] at h
 injection h with h1 h2
 rw [edgesTo_succ, if_pos ⟨h1, h2⟩]
end Go.Proofs.YtakdjgldcpompaaGreat
