/- The law ValidRing, walked. -/
import Derived.Test.YtnalgllmdpcjcaaRing
namespace Go.Proofs.Ytnalgllmdpcjcaa
open Go Go.RowKit

theorem szV_big {n : Nat} (h : ¬ (n : Int) ≤ 1048576) : szV 1048576 n = -1 := by unfold szV; rw [if_neg h]
theorem szV_small {n : Nat} (h : (n : Int) ≤ 1048576) : szV 1048576 n = 1048576 - n := by unfold szV; rw [if_pos h]

end Go.Proofs.Ytnalgllmdpcjcaa
