/- The common point of two lines. -/
import Derived.Test.YtjhaakollekjeaaCorner
import Derived.Test.YtjhaakollekjeaaL2
import Derived.Test.YtjhaakollekjeaaDiv
namespace Go.Proofs.Ytjhaakollekjeaa
open Go.RowKit
set_option linter.unusedVariables false
set_option linter.unusedSimpArgs false

/-- Twice the signed area of a triangle. -/
def trn (ax ay bx b_y cx cy : Int) : Int := (bx - ax) * (cy - ay) - (b_y - ay) * (cx - ax)

set_option maxHeartbeats 400000 in
theorem turn_any (ax ay bx b_y cx cy : Int) (w : World) (a1 : -1048576 ≤ ax) (a2 : ax ≤ 1048576) (a3 : -1048576 ≤ ay) (a4 : ay ≤ 1048576) (b1 : -1048576 ≤ bx) (b2 : bx ≤ 1048576) (b3 : -1048576 ≤ b_y) (b4 : b_y ≤ 1048576)
  (c1 : -1048576 ≤ cx) (c2 : cx ≤ 1048576) (c3 : -1048576 ≤ cy) (c4 : cy ≤ 1048576) :
  Calls Try.prog 105 #[ptV ax ay, ptV bx b_y, ptV cx cy] w fun e w' => e = .returned (.int .i64 (trn ax ay bx b_y cx cy)) ∧ Over w w' := by
 obtain ⟨u1, u1'⟩ := mul_bd (a := bx - ax) (b := cy - ay) (A := 2097152) (B := 2097152) (by omega) (by omega) (by omega) (by omega)
 obtain ⟨u2, u2'⟩ := mul_bd (a := b_y - ay) (b := cx - ax) (A := 2097152) (B := 2097152) (by omega) (by omega) (by omega) (by omega)
 go_enter Try.func105, Try.ntmps105
 go_wp2
 go_ret
 exact ⟨by simp [trn], (by repeat (first | exact Over.refl _ | (with_reducible assumption) | refine Over.alloc_ ?_ _ | refine Over.trans ?_ (by with_reducible assumption) | refine Over.drew_ ?_ | refine Over.set_ ?_ (by simp; try omega) _))⟩

set_option maxHeartbeats 400000 in
theorem l03Turn_any (ax ay bx b_y cx cy : Int) (w : World) (a1 : -1048576 ≤ ax) (a2 : ax ≤ 1048576) (a3 : -1048576 ≤ ay) (a4 : ay ≤ 1048576) (b1 : -1048576 ≤ bx) (b2 : bx ≤ 1048576) (b3 : -1048576 ≤ b_y) (b4 : b_y ≤ 1048576)
  (c1 : -1048576 ≤ cx) (c2 : cx ≤ 1048576) (c3 : -1048576 ≤ cy) (c4 : cy ≤ 1048576) :
  Calls Try.prog 134 #[ptV ax ay, ptV bx b_y, ptV cx cy] w fun e w' => e = .returned (.int .i64 (trn ax ay bx b_y cx cy)) ∧ Over w w' := by
 obtain ⟨u1, u1'⟩ := mul_bd (a := bx - ax) (b := cy - ay) (A := 2097152) (B := 2097152) (by omega) (by omega) (by omega) (by omega)
 obtain ⟨u2, u2'⟩ := mul_bd (a := b_y - ay) (b := cx - ax) (A := 2097152) (B := 2097152) (by omega) (by omega) (by omega) (by omega)
 go_enter Try.func134, Try.ntmps134
 go_wp2
 go_ret
 exact ⟨by simp [trn], (by repeat (first | exact Over.refl _ | (with_reducible assumption) | refine Over.alloc_ ?_ _ | refine Over.trans ?_ (by with_reducible assumption) | refine Over.drew_ ?_ | refine Over.set_ ?_ (by simp; try omega) _))⟩

end Go.Proofs.Ytjhaakollekjeaa
