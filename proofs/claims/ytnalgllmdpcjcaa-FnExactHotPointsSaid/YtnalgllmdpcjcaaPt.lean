/- Two points compared by the laws. -/
import Derived.Test.YtnalgllmdpcjcaaL2
namespace Go.Proofs.Ytnalgllmdpcjcaa
open Go.RowKit

theorem eqPt_any (ax ay bx b_y : Int) (w : World) :
    Calls Try.prog 29 #[ptV ax ay, ptV bx b_y] w fun e w' => e = .returned (.bool (ax == bx && ay == b_y)) ∧ Over w w' := by
  cases h1 : (ax == bx)
  all_goals
    have h1' : (ax != bx) = !(ax == bx) := rfl
    rw [h1] at h1'
    cases h2 : (ay == b_y)
  all_goals
    have h2' : (ay != b_y) = !(ay == b_y) := rfl
    rw [h2] at h2'
    clear h1 h2
    go_enter Try.func29, Try.ntmps29
    go_wp2
    go_ret
    exact ⟨rfl, (by repeat (first | exact Over.refl _ | (with_reducible assumption) | refine Over.alloc_ ?_ _ | refine Over.trans ?_ (by with_reducible assumption) | refine Over.drew_ ?_ | refine Over.set_ ?_ (by simp; try omega) _))⟩

end Go.Proofs.Ytnalgllmdpcjcaa
