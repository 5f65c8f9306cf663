/- Twice the area of a ring: the program's, the reference's, the law's walk. -/
import Derived.Test.YtnalgllmdpcjcaaLegs
import Derived.Test.YtnalgllmdpcjcaaValidRing
namespace Go.Proofs.Ytnalgllmdpcjcaa
open Go Go.RowKit

def rtA (xs : List (Int × Int)) : Int := if ringB xs = true then twiceTo xs xs.length else 0
def rtC (xs : List (Int × Int)) : Int := if ringB xs = true then 0 else 1

theorem ringB_parts {xs : List (Int × Int)} (h : ringB xs = true) : 1 ≤ xs.length ∧ xs.length ≤ 400 ∧ allOk xs = true := by
  simp [ringB, inB] at h
  exact ⟨by omega, by omega, h.2⟩

theorem edgesR_sum (xs : List (Int × Int)) : legSum (edgesR xs) = twiceTo xs xs.length := legSum_edges xs _

end Go.Proofs.Ytnalgllmdpcjcaa
