import Derived.Test.YtcplmmoeglembaaL2
import Derived.BigRegion
namespace Go.Proofs.Ytcplmmoeglembaa
open Go.RowKit
set_option linter.unusedVariables false
set_option linter.unusedSimpArgs false

theorem l00Max_any (a b : Int) (w : World) :
    Calls Try.prog 102 #[.int .i64 a, .int .i64 b] w fun e w' => e = .returned (.int .i64 (max a b)) ∧ w = w' := by
  by_cases h1 : b < a
  · have hv : Hid (max a b = a) := by unfold Hid; omega
    go_enter Try.func102, Try.ntmps102
    go_wp2
    go_ret
    exact ⟨by rw [hv.out]; rfl, rfl⟩
  · have hv : Hid (max a b = b) := by unfold Hid; omega
    go_enter Try.func102, Try.ntmps102
    go_wp2
    go_ret
    exact ⟨by rw [hv.out]; rfl, rfl⟩

theorem mul_bd {a b A B : Int} (ha : -A ≤ a) (ha' : a ≤ A) (hb : -B ≤ b) (hb' : b ≤ B) : -(A * B) ≤ a * b ∧ a * b ≤ A * B := by
  have hA : 0 ≤ A := by omega
  have hB : 0 ≤ B := by omega
  have h1 : (a * b).natAbs ≤ (A * B).natAbs := by
    rw [Int.natAbs_mul, Int.natAbs_mul]
    exact Nat.mul_le_mul (by omega) (by omega)
  have h2 : 0 ≤ A * B := Int.mul_nonneg hA hB
  omega

set_option maxHeartbeats 400000 in
theorem l11Dot_any (ax ay bx b_y : Int) (w : World) (h1 : -1048576 ≤ ax) (h2 : ax ≤ 1048576) (h3 : -1048576 ≤ ay) (h4 : ay ≤ 1048576) (h5 : -1048576 ≤ bx) (h6 : bx ≤ 1048576) (h7 : -1048576 ≤ b_y) (h8 : b_y ≤ 1048576) :
    Calls Try.prog 71 #[ptV ax ay, ptV bx b_y] w fun e w' => e = .returned (.int .i64 (ax * bx + ay * b_y)) ∧ Over w w' := by
  have m1 := mul_bd h1 h2 h5 h6
  have m2 := mul_bd h3 h4 h7 h8
  obtain ⟨m1, m1'⟩ := m1
  obtain ⟨m2, m2'⟩ := m2
  go_enter Try.func71, Try.ntmps71
  go_wp2
  go_ret
  exact ⟨rfl, (by repeat (first | exact Over.refl _ | (with_reducible assumption) | refine Over.alloc_ ?_ _ | refine Over.trans ?_ (by with_reducible assumption) | refine Over.drew_ ?_ | refine Over.set_ ?_ (by simp; try omega) _))⟩

def cornerB (ax ay px py bx b_y : Int) : Bool :=
  decide (2 * max ((px - ax) * (b_y - py) - (py - ay) * (bx - px)) (-((px - ax) * (b_y - py) - (py - ay) * (bx - px))) > (px - ax) * (bx - px) + (py - ay) * (b_y - py))

def cornerAll (ax ay px py bx b_y : Int) : Bool := okB ax ay && okB px py && okB bx b_y && cornerB ax ay px py bx b_y

end Go.Proofs.Ytcplmmoeglembaa
