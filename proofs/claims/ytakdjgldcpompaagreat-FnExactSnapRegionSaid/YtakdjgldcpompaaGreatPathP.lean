/- The way of a segment through hot points: the plain law. -/
import Derived.Test.YtakdjgldcpompaaGreatWay
import Derived.Test.YtakdjgldcpompaaGreatPix
import Derived.Test.YtakdjgldcpompaaGreatHot
namespace Go.Proofs.YtakdjgldcpompaaGreat
open Go Go.RowKit
set_option linter.unusedVariables false
set_option linter.unusedSimpArgs false

/-! ### Bounds compared -/
def ltWy (x y : Wy) : Prop := x.num * y.den < y.num * x.den ∨ (x.num * y.den = y.num * x.den ∧ x.cl = true ∧ y.cl = false)
def cmpWy (x y : Wy) : Int := if sgn (x.num * y.den - y.num * x.den) ≠ 0 then sgn (x.num * y.den - y.num * x.den) else if (x.cl && !y.cl) = true then -1 else if (!x.cl && y.cl) = true then 1 else 0
theorem cmpWy_neg {x y : Wy} : cmpWy x y < 0 ↔ ltWy x y := by
 unfold cmpWy ltWy
 have k := sgn_cases (x.num * y.den - y.num * x.den)
 split
 ·omega
 ·cases x.cl <;> cases y.cl <;> simp <;> omega
theorem wy_weak : Weak (ltC cmpWy) := by
 have e : ∀ x y, ltC cmpWy x y = true ↔ ltWy x y := fun x y => by rw [ltC, decide_eq_true_eq, cmpWy_neg]
 have e' : ∀ x y, ltC cmpWy x y = false ↔ ¬ ltWy x y := fun x y => by rw [← e x y, Bool.not_eq_true]
 refine ⟨fun a b h => ?_, fun a b c h1 h2 => ?_⟩
 ·rw [e'] ; rw [e] at h
  rintro (h2 | ⟨h2, h3, h4⟩)
  ·rcases h with h | ⟨h, _, _⟩ <;> omega
  ·rcases h with h | ⟨h, h5, h6⟩
   ·omega
   ·rw [h5] at h4; cases h4
 ·rw [e'] at h1 h2 ⊢
  have b1 : b.num * a.den ≤ a.num * b.den := Int.not_lt.1 fun h => h1 (.inl h)
  have b2 : c.num * b.den ≤ b.num * c.den := Int.not_lt.1 fun h => h2 (.inl h)
  rintro (h | ⟨h, h3, h4⟩)
  ·have := frac_le b.pos c.pos a.pos b2 b1
   omega
  ·have g1 : ¬ b.num * a.den < a.num * b.den := fun h' => by
    have := frac_lt' b.pos c.pos a.pos b2 h'
    omega
   have g2 : ¬ c.num * b.den < b.num * c.den := fun h' => by
    have := frac_lt b.pos c.pos a.pos h' b1
    omega
   cases hb : b.cl with
   | true => exact h2 (.inr ⟨by omega, hb, h4⟩)
   | false => exact h1 (.inr ⟨by omega, h3, hb⟩)

/-! ### The way -/
/-- The part of a segment in the pixel of a point. -/
def pathSp (a b p : Pn) : Sp := spMeet (spMeet sp0 (pixX (2 * a.1) (2 * (b.1 - a.1)) (2 * p.1 - 1))) (pixX (2 * a.2) (2 * (b.2 - a.2)) (2 * p.2 - 1))
def insP (a b p : Pn) : Bool := insB (2 * a.1) (2 * (b.1 - a.1)) (2 * p.1 - 1) (2 * a.2) (2 * (b.2 - a.2)) (2 * p.2 - 1)
theorem pathSp_pos (a b p : Pn) : 0 < (pathSp a b p).ld ∧ 0 < (pathSp a b p).hd := spMeet_pos (spMeet_pos sp0_pos (pixX_pos _ _ _)) (pixX_pos _ _ _)
def wyOf (a b p : Pn) : Wy := ⟨p.1, p.2, (pathSp a b p).ln, (pathSp a b p).ld, (pathSp a b p).lc, (pathSp_pos a b p).1⟩
/-- In the box of a segment, with one more on each side. -/
def boxX (a b p : Pn) : Bool := !(decide (p.1 < min a.1 b.1 - 1) || decide (p.1 > max a.1 b.1 + 1))
def boxY (a b p : Pn) : Bool := !(decide (p.2 < min a.2 b.2 - 1) || decide (p.2 > max a.2 b.2 + 1))
def onWay (a b p : Pn) : Bool := boxX a b p && boxY a b p && insP a b p
def wayL (a b : Pn) (hot : List Pn) : List Wy := (hot.filter (onWay a b)).map (wyOf a b)
def pathP (a b : Pn) (hot : List Pn) : List Pn := (srt (ltC cmpWy) (wayL a b hot)).map fun e => (e.x, e.y)
theorem clip_path (a b p : Pn) (hi : insP a b p = true) : clipB sp0 (2 * a.1) (2 * (b.1 - a.1)) (2 * p.1 - 1) = true ∧ clipS (clipS sp0 (2 * a.1) (2 * (b.1 - a.1)) (2 * p.1 - 1)) (2 * a.2) (2 * (b.2 - a.2)) (2 * p.2 - 1) = pathSp a b p := by
 have := clip_law (2 * a.1) (2 * (b.1 - a.1)) (2 * p.1 - 1) (2 * a.2) (2 * (b.2 - a.2)) (2 * p.2 - 1)
 unfold insP at hi
 rw [hi] at this
 have h2 := (Bool.and_eq_true _ _ ▸ this.symm : _ ∧ _)
 refine ⟨h2.1, ?_⟩
 rw [clipS_eq sp0_unit, clipS_eq unit_meet]
 rfl
theorem pathSp_bd {a b p : Pn} (ha : bd2 a) (hb : bd2 b) (hp : bd2 p) : bdP (pathSp a b p) := by
 obtain ⟨⟨a1, a2⟩, a3, a4⟩ := ha
 obtain ⟨⟨b1, b2⟩, b3, b4⟩ := hb
 obtain ⟨⟨p1, p2⟩, p3, p4⟩ := hp
 have hx := pixX_bd (2 * a.1) (2 * (b.1 - a.1)) (2 * p.1 - 1) (by omega) (by omega) (by omega) (by omega) (by omega) (by omega)
 have hy := pixX_bd (2 * a.2) (2 * (b.2 - a.2)) (2 * p.2 - 1) (by omega) (by omega) (by omega) (by omega) (by omega) (by omega)
 exact meetHigh_bd (meetLow_bd (meetHigh_bd (meetLow_bd sp0_bd hx) hx) hy) hy
theorem wayL_app (a b : Pn) (l m : List Pn) : wayL a b (l ++ m) = wayL a b l ++ wayL a b m := by simp [wayL, List.filter_append]
theorem wayL_none {a b : Pn} {l : List Pn} (h : ∀ p ∈ l, onWay a b p = false) : wayL a b l = [] := by
 unfold wayL
 rw [List.filter_eq_nil_iff.2 fun p hp => by rw [h p hp]; decide]
 rfl
theorem wayL_one {a b p : Pn} (h : onWay a b p = true) : wayL a b [p] = [wyOf a b p] := by simp [wayL, h]
theorem take_pt {xs : List Pn} {k : Nat} (h : k < xs.length) : xs.take (k + 1) = xs.take k ++ [pt xs k] := by
 rw [List.take_succ_eq_append_getElem h, pt_at h]
theorem wayL_len (a b : Pn) (l : List Pn) : (wayL a b l).length ≤ l.length := by
 unfold wayL
 rw [List.length_map]
 exact List.length_filter_le _ _
theorem wayL_mem {a b : Pn} {l : List Pn} {e : Wy} (h : e ∈ wayL a b l) : ∃ p ∈ l, e = wyOf a b p := by
 obtain ⟨p, hp, rfl⟩ := List.mem_map.1 h
 exact ⟨p, (List.mem_filter.1 hp).1, rfl⟩
end Go.Proofs.YtakdjgldcpompaaGreat
