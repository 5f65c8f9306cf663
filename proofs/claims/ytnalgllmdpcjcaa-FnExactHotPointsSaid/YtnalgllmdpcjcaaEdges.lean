/- The edges of a ring: twice the area, the program's list of edges. -/
import Derived.Test.YtnalgllmdpcjcaaRing
import Derived.Test.YtnalgllmdpcjcaaCorner
namespace Go.Proofs.Ytnalgllmdpcjcaa
open Go Go.RowKit

/-- The index of the next point. -/
def nx (xs : List (Int × Int)) (k : Nat) : Nat := (k + 1) % xs.length
theorem nx_lt {xs : List (Int × Int)} (k : Nat) (h : 0 < xs.length) : nx xs k < xs.length := Nat.mod_lt _ h

def crossAt (xs : List (Int × Int)) (k : Nat) : Int := px xs k * py xs (nx xs k) - py xs k * px xs (nx xs k)
def twiceTo (xs : List (Int × Int)) : Nat → Int
  | 0 => 0
  | k + 1 => twiceTo xs k + crossAt xs k

theorem ok_at {xs : List (Int × Int)} (h : allOk xs = true) {k : Nat} (hk : k < xs.length) : -262144 ≤ px xs k ∧ px xs k ≤ 262144 ∧ -262144 ≤ py xs k ∧ py xs k ≤ 262144 := by
  have := List.all_eq_true.1 h xs[k] (List.getElem_mem hk)
  rw [at_p hk] at this
  simp [okB, inB] at this
  omega

theorem crossAt_bd {xs : List (Int × Int)} (h : allOk xs = true) {k : Nat} (hk : k < xs.length) : -137438953472 ≤ crossAt xs k ∧ crossAt xs k ≤ 137438953472 := by
  obtain ⟨a1, a2, a3, a4⟩ := ok_at h hk
  obtain ⟨b1, b2, b3, b4⟩ := ok_at h (nx_lt k (show 0 < xs.length by omega))
  have := mul_bd a1 a2 b3 b4
  have := mul_bd a3 a4 b1 b2
  unfold crossAt
  omega
theorem twiceTo_bd {xs : List (Int × Int)} (h : allOk xs = true) : ∀ k : Nat, k ≤ xs.length → -(k * 137438953472 : Int) ≤ twiceTo xs k ∧ twiceTo xs k ≤ k * 137438953472
  | 0, _ => by simp [twiceTo]
  | k + 1, hk => by
    have h1 := twiceTo_bd h k (by omega)
    have h2 := crossAt_bd h (show k < xs.length by omega)
    simp only [twiceTo]
    have : ((k + 1 : Nat) : Int) * 137438953472 = (k : Int) * 137438953472 + 137438953472 := by rw [Int.natCast_add, Int.add_mul]; rfl
    omega

theorem nx_int {xs : List (Int × Int)} {n : Nat} (hl : xs.length = n) (k : Nat) : ((k : Int) + 1) % (n : Int) = ((nx xs k : Nat) : Int) := by
  unfold nx
  rw [hl]
  simp

end Go.Proofs.Ytnalgllmdpcjcaa
