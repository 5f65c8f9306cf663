/- The common point of two lines. -/
import Derived.Test.YtakdjgldcpompaaCorner
import Derived.Test.YtakdjgldcpompaaL2
import Derived.Test.YtakdjgldcpompaaDiv
namespace Go.Proofs.Ytakdjgldcpompaa
open Go.RowKit
set_option linter.unusedVariables false
set_option linter.unusedSimpArgs false

/-- Twice the signed area of a triangle. -/
def trn (ax ay bx b_y cx cy : Int) : Int := (bx - ax) * (cy - ay) - (b_y - ay) * (cx - ax)

set_option maxHeartbeats 400000 in
theorem turn_any (ax ay bx b_y cx cy : Int) (w : World) (a1 : -1048576 ≤ ax) (a2 : ax ≤ 1048576) (a3 : -1048576 ≤ ay) (a4 : ay ≤ 1048576) (b1 : -1048576 ≤ bx) (b2 : bx ≤ 1048576) (b3 : -1048576 ≤ b_y) (b4 : b_y ≤ 1048576)
    (c1 : -1048576 ≤ cx) (c2 : cx ≤ 1048576) (c3 : -1048576 ≤ cy) (c4 : cy ≤ 1048576) :
    Calls Try.prog 91 #[ptV ax ay, ptV bx b_y, ptV cx cy] w fun e w' => e = .returned (.int .i64 (trn ax ay bx b_y cx cy)) ∧ Over w w' := by
  obtain ⟨u1, u1'⟩ := mul_bd (a := bx - ax) (b := cy - ay) (A := 2097152) (B := 2097152) (by omega) (by omega) (by omega) (by omega)
  obtain ⟨u2, u2'⟩ := mul_bd (a := b_y - ay) (b := cx - ax) (A := 2097152) (B := 2097152) (by omega) (by omega) (by omega) (by omega)
  go_enter Try.func91, Try.ntmps91
  go_wp2
  go_ret
  exact ⟨by simp [trn], (by repeat (first | exact Over.refl _ | (with_reducible assumption) | refine Over.alloc_ ?_ _ | refine Over.trans ?_ (by with_reducible assumption) | refine Over.drew_ ?_ | refine Over.set_ ?_ (by simp; try omega) _))⟩

set_option maxHeartbeats 400000 in
theorem l03Turn_any (ax ay bx b_y cx cy : Int) (w : World) (a1 : -1048576 ≤ ax) (a2 : ax ≤ 1048576) (a3 : -1048576 ≤ ay) (a4 : ay ≤ 1048576) (b1 : -1048576 ≤ bx) (b2 : bx ≤ 1048576) (b3 : -1048576 ≤ b_y) (b4 : b_y ≤ 1048576)
    (c1 : -1048576 ≤ cx) (c2 : cx ≤ 1048576) (c3 : -1048576 ≤ cy) (c4 : cy ≤ 1048576) :
    Calls Try.prog 82 #[ptV ax ay, ptV bx b_y, ptV cx cy] w fun e w' => e = .returned (.int .i64 (trn ax ay bx b_y cx cy)) ∧ Over w w' := by
  obtain ⟨u1, u1'⟩ := mul_bd (a := bx - ax) (b := cy - ay) (A := 2097152) (B := 2097152) (by omega) (by omega) (by omega) (by omega)
  obtain ⟨u2, u2'⟩ := mul_bd (a := b_y - ay) (b := cx - ax) (A := 2097152) (B := 2097152) (by omega) (by omega) (by omega) (by omega)
  go_enter Try.func82, Try.ntmps82
  go_wp2
  go_ret
  exact ⟨by simp [trn], (by repeat (first | exact Over.refl _ | (with_reducible assumption) | refine Over.alloc_ ?_ _ | refine Over.trans ?_ (by with_reducible assumption) | refine Over.drew_ ?_ | refine Over.set_ ?_ (by simp; try omega) _))⟩

theorem trn_bd (ax ay bx b_y cx cy : Int) (a1 : -262144 ≤ ax) (a2 : ax ≤ 262144) (a3 : -262144 ≤ ay) (a4 : ay ≤ 262144) (b1 : -262144 ≤ bx) (b2 : bx ≤ 262144) (b3 : -262144 ≤ b_y) (b4 : b_y ≤ 262144)
    (c1 : -262144 ≤ cx) (c2 : cx ≤ 262144) (c3 : -262144 ≤ cy) (c4 : cy ≤ 262144) : -549755813888 ≤ trn ax ay bx b_y cx cy ∧ trn ax ay bx b_y cx cy ≤ 549755813888 := by
  have := mul_bd (a := bx - ax) (b := cy - ay) (A := 524288) (B := 524288) (by omega) (by omega) (by omega) (by omega)
  have := mul_bd (a := b_y - ay) (b := cx - ax) (A := 524288) (B := 524288) (by omega) (by omega) (by omega) (by omega)
  unfold trn
  omega

theorem rnd_shift (a x D : Int) (hD : 0 < D) : rnd (a * D + x) D = a + rnd x D := by
  have h1 : (a * D + x) / D = a + x / D := by rw [Int.add_comm, Int.add_mul_ediv_right _ _ (by omega)]; omega
  have h2 : (a * D + x) % D = x % D := by rw [Int.add_comm, Int.add_mul_emod_self_right]
  unfold rnd
  rw [h1, h2]
  split <;> omega

/-- The crossing of two lines, num over den in both directions from a. -/
def crs (ax bx num den : Int) : Int := if den < 0 then rnd (ax * -den + (bx - ax) * -num) (-den) else rnd (ax * den + (bx - ax) * num) den

theorem crs_eq (ax bx num den : Int) (h : den ≠ 0) : crs ax bx num den = ax + (if den < 0 then rnd ((bx - ax) * -num) (-den) else rnd ((bx - ax) * num) den) := by
  unfold crs
  split
  · exact rnd_shift _ _ _ (by omega)
  · exact rnd_shift _ _ _ (by omega)

def denOf (ax ay bx b_y cx cy dx dy : Int) : Int := (bx - ax) * (dy - cy) - (b_y - ay) * (dx - cx)
def numOf (ax ay cx cy dx dy : Int) : Int := (cx - ax) * (dy - cy) - (cy - ay) * (dx - cx)

end Go.Proofs.Ytakdjgldcpompaa
