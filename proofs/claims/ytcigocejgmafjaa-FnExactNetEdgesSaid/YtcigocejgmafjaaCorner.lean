import Derived.Test.YtcigocejgmafjaaL2
import Derived.BigRegion
namespace Go.Proofs.Ytcigocejgmafjaa
open Go.RowKit
set_option linter.unusedVariables false
set_option linter.unusedSimpArgs false

theorem l00Max_any (a b : Int) (w : World) :
  Calls Try.prog 50 #[.int .i64 a, .int .i64 b] w fun e w' => e = .returned (.int .i64 (max a b)) ∧ w = w' := by
 by_cases h1 : b < a
 ·have hv : Hid (max a b = a) := by unfold Hid; omega
  go_enter Try.func50, Try.ntmps50
  go_wp2
  go_ret
  exact ⟨by rw [hv.out]; rfl, rfl⟩
 ·have hv : Hid (max a b = b) := by unfold Hid; omega
  go_enter Try.func50, Try.ntmps50
  go_wp2
  go_ret
  exact ⟨by rw [hv.out]; rfl, rfl⟩

theorem mul_bd {a b A B : Int} (ha : -A ≤ a) (ha' : a ≤ A) (hb : -B ≤ b) (hb' : b ≤ B) : -(A * B) ≤ a * b ∧ a * b ≤ A * B := by
 have hA : 0 ≤ A := by omega
 have hB : 0 ≤ B := by omega
 have h1 : (a * b).natAbs ≤ (A * B).natAbs := by
  rw [Int.natAbs_mul, Int.natAbs_mul]
  exact Nat.mul_le_mul (by omega) (by omega)
 have h2 : 0 ≤ A * B := Int.mul_nonneg hA hB
 omega

end Go.Proofs.Ytcigocejgmafjaa
