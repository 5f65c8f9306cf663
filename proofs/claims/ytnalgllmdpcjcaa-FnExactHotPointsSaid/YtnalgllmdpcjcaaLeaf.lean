/- Contracts of the small integer functions: what each returns. No condition but the ranges named. -/
import Derived.Test.YtnalgllmdpcjcaaMem
namespace Go.Proofs.Ytnalgllmdpcjcaa
open Go.RowKit


def sgn (n : Int) : Int := if n < 0 then -1 else if 0 < n then 1 else 0
def inB (n lo hi : Int) : Bool := decide (lo ≤ n) && decide (n ≤ hi)
def okB (x y : Int) : Bool := inB x (-262144) 262144 && inB y (-262144) 262144

theorem sign64_any (n : Int) (w : World) :
    Calls Try.prog 111 #[.int .i64 n] w fun e w' => e = .returned (.int .i64 (sgn n)) ∧ w = w' := by
  by_cases h1 : n < 0
  · have hv : Hid (sgn n = -1) := by simp [Hid, sgn, h1]
    go_enter Try.func111, Try.ntmps111
    go_wp2
    go_ret
    exact ⟨by rw [hv.out]; rfl, rfl⟩
  · by_cases h2 : 0 < n
    · have hv : Hid (sgn n = 1) := by simp [Hid, sgn, h1, h2]
      go_enter Try.func111, Try.ntmps111
      go_wp2
      go_ret
      exact ⟨by rw [hv.out]; rfl, rfl⟩
    · have hv : Hid (sgn n = 0) := by simp [Hid, sgn, h1, h2]
      go_enter Try.func111, Try.ntmps111
      go_wp2
      go_ret
      exact ⟨by rw [hv.out]; rfl, rfl⟩

theorem l00In_any (n lo hi : Int) (w : World) :
    Calls Try.prog 118 #[.int .i64 n, .int .i64 lo, .int .i64 hi] w fun e w' => e = .returned (.bool (inB n lo hi)) ∧ w = w' := by
  by_cases h1 : lo ≤ n
  · have hv : Hid (inB n lo hi = decide (n ≤ hi)) := by simp [Hid, inB, h1]
    go_enter Try.func118, Try.ntmps118
    go_wp2
    go_ret
    exact ⟨by rw [hv.out]; rfl, rfl⟩
  · have hv : Hid (inB n lo hi = false) := by simp [Hid, inB, h1]
    go_enter Try.func118, Try.ntmps118
    go_wp2
    go_ret
    exact ⟨by rw [hv.out]; rfl, rfl⟩
end Go.Proofs.Ytnalgllmdpcjcaa
