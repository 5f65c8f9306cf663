/- How often edges go around a point; whether a point is on one: the program's and the reference's. -/
import Derived.Test.YtbdlbemlgghgbaaOn
import Derived.Test.YtbdlbemlgghgbaaValidRegion
namespace Go.Proofs.Ytbdlbemlgghgbaa
open Go Go.RowKit
set_option linter.unusedVariables false
set_option linter.unusedSimpArgs false

section
variable {w : World} {w0 : Bs} {Rs : List Res}
theorem Legs.form {A : Option Addr} {n : Nat} {ls : List Leg} (h : Legs w A n ls) (hn : 0 < n) : ∃ b o, A = some ⟨b, o, none⟩ := by
  obtain ⟨b, o, rfl, _⟩ := h.2 hn
  exact ⟨b, o, rfl⟩
/-- An edge of a slice, its first end, its second end. -/
theorem rdLeg {b o m j : Nat} {ls : List Leg} (h : ∀ w, St w0 Rs w → Legs w (some ⟨b, o, none⟩) m ls) (hj : j < m) : ∀ w', St w0 Rs w' → ∀ q v, [Value.int .i64 (lg ls j).ax, Value.int .i64 (lg ls j).ay, Value.int .i64 (lg ls j).bx, Value.int .i64 (lg ls j).b_y][q]? = some v → w'.cell? ⟨b, o + j * 4 + q, none⟩ = some v := fun w' hs q v hv => by
  obtain ⟨b', o', e, _, h1, h2, h3, h4⟩ := (h w' hs).at_ hj
  injection e with e
  injection e with e1 e2 _
  subst e1 e2
  match q, hv with
  | 0, hv => simp at hv; subst hv; exact h1
  | 1, hv => simp at hv; subst hv; exact h2
  | 2, hv => simp at hv; subst hv; exact h3
  | 3, hv => simp at hv; subst hv; exact h4
theorem rdLegA {b o m j : Nat} {ls : List Leg} (h : ∀ w, St w0 Rs w → Legs w (some ⟨b, o, none⟩) m ls) (hj : j < m) : ∀ w', St w0 Rs w' → ∀ q v, [Value.int .i64 (lg ls j).ax, Value.int .i64 (lg ls j).ay][q]? = some v → w'.cell? ⟨b, o + j * 4 + 0 + q, none⟩ = some v := fun w' hs q v hv =>
  rdLeg h hj w' hs q v (by match q, hv with | 0, hv => exact hv | 1, hv => exact hv)
theorem rdLegB {b o m j : Nat} {ls : List Leg} (h : ∀ w, St w0 Rs w → Legs w (some ⟨b, o, none⟩) m ls) (hj : j < m) : ∀ w', St w0 Rs w' → ∀ q v, [Value.int .i64 (lg ls j).bx, Value.int .i64 (lg ls j).b_y][q]? = some v → w'.cell? ⟨b, o + j * 4 + 2 + q, none⟩ = some v := fun w' hs q v hv => by
  have := rdLeg h hj w' hs (2 + q) v (by match q, hv with | 0, hv => exact hv | 1, hv => exact hv)
  rwa [← Nat.add_assoc] at this
end

def dblL (h : Bool) (l : Leg) : Leg := if h = true then ⟨2 * l.ax, 2 * l.ay, 2 * l.bx, 2 * l.b_y⟩ else l
def wUp (l : Leg) (x y : Int) : Bool := decide (l.ay ≤ y) && decide (y < l.b_y) && decide (0 < trn l.ax l.ay l.bx l.b_y x y)
def wDown (l : Leg) (x y : Int) : Bool := decide (l.b_y ≤ y) && decide (y < l.ay) && decide (trn l.ax l.ay l.bx l.b_y x y < 0)
def wStep (l : Leg) (x y : Int) : Int := if wUp l x y = true then 1 else if wDown l x y = true then -1 else 0
def windTo (h : Bool) (ls : List Leg) (x y : Int) : Nat → Int
  | 0 => 0
  | k + 1 => windTo h ls x y k + wStep (dblL h (lg ls k)) x y
def wind (h : Bool) (ls : List Leg) (x y : Int) : Int := windTo h ls x y ls.length
theorem windTo_bd (h : Bool) (ls : List Leg) (x y : Int) : ∀ k : Nat, -(k : Int) ≤ windTo h ls x y k ∧ windTo h ls x y k ≤ k
  | 0 => by simp [windTo]
  | k + 1 => by
    have := windTo_bd h ls x y k
    have h2 : -1 ≤ wStep (dblL h (lg ls k)) x y ∧ wStep (dblL h (lg ls k)) x y ≤ 1 := by unfold wStep; split <;> (try split) <;> omega
    simp only [windTo]
    omega
theorem lg_ok {ls : List Leg} (h : ∀ l ∈ ls, legOk l) {k : Nat} (hk : k < ls.length) : legOk (lg ls k) := by
  rw [← at_l hk]
  exact h _ (List.getElem_mem hk)
theorem dblL_bd (h : Bool) {l : Leg} (hl : legOk l) : bdM (dblL h l).ax ∧ bdM (dblL h l).ay ∧ bdM (dblL h l).bx ∧ bdM (dblL h l).b_y := by
  obtain ⟨⟨a1, a2⟩, ⟨a3, a4⟩, ⟨b1, b2⟩, b3, b4⟩ := hl
  cases h
  · simp only [dblL, bdM, Bool.false_eq_true, if_false]; omega
  · simp only [dblL, bdM, if_true]; omega

theorem leg_bd {l : Leg} (hl : legOk l) : bdM l.ax ∧ bdM l.ay ∧ bdM l.bx ∧ bdM l.b_y := by
  obtain ⟨⟨a1, a2⟩, ⟨a3, a4⟩, ⟨b1, b2⟩, b3, b4⟩ := hl
  refine ⟨⟨?_, ?_⟩, ⟨?_, ?_⟩, ⟨?_, ?_⟩, ?_, ?_⟩ <;> omega
theorem leg_bd2 {l : Leg} (hl : legOk l) : bdM (2 * l.ax) ∧ bdM (2 * l.ay) ∧ bdM (2 * l.bx) ∧ bdM (2 * l.b_y) := by
  obtain ⟨⟨a1, a2⟩, ⟨a3, a4⟩, ⟨b1, b2⟩, b3, b4⟩ := hl
  refine ⟨⟨?_, ?_⟩, ⟨?_, ?_⟩, ⟨?_, ?_⟩, ?_, ?_⟩ <;> omega
theorem windF_up {ls : List Leg} {x y : Int} {k : Nat} (h : wUp (lg ls k) x y = true) : windTo false ls x y k + 1 = windTo false ls x y (k + 1) := by
  simp [windTo, dblL, wStep, h]
theorem windF_down {ls : List Leg} {x y : Int} {k : Nat} (h : wUp (lg ls k) x y = false) (h2 : wDown (lg ls k) x y = true) : windTo false ls x y k - 1 = windTo false ls x y (k + 1) := by
  simp [windTo, dblL, wStep, h, h2]; omega
theorem windF_stay {ls : List Leg} {x y : Int} {k : Nat} (h : wUp (lg ls k) x y = false) (h2 : wDown (lg ls k) x y = false) : windTo false ls x y k = windTo false ls x y (k + 1) := by
  simp [windTo, dblL, wStep, h, h2]

end Go.Proofs.Ytbdlbemlgghgbaa
