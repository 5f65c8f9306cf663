/- Contracts of the divisions: rounded down, and to the nearest. -/
import Derived.Test.YtakdjgldcpompaaL2
namespace Go.Proofs.Ytakdjgldcpompaa
open Go.RowKit
set_option linter.unusedVariables false
set_option linter.unusedSimpArgs false

/-- The quotient rounded to the nearest, halves up. -/
def rnd (n d : Int) : Int := if d - n % d ≤ n % d then n / d + 1 else n / d

theorem tdiv_neg_ (n d : Int) (hn : n < 0) (hd : 0 < d) : n.tdiv d = (if n % d = 0 then n / d else n / d + 1) ∧ n.tmod d = (if n % d = 0 then 0 else n % d - d) := by
  have h1 := Int.tdiv_eq_ediv (a := n) (b := d)
  have h2 := Int.tmod_eq_emod (a := n) (b := d)
  have hs : Int.sign d = 1 := Int.sign_eq_one_of_pos hd
  rw [hs] at h1
  by_cases h : n % d = 0
  · have hdv : d ∣ n := Int.dvd_of_emod_eq_zero h
    rw [if_pos (Or.inr hdv)] at h1 h2
    rw [if_pos h, if_pos h]
    omega
  · have hdv : ¬ d ∣ n := fun hd' => h (Int.emod_eq_zero_of_dvd hd')
    have hnn : ¬ (0 ≤ n ∨ d ∣ n) := by omega
    rw [if_neg hnn] at h1 h2
    rw [if_neg h, if_neg h]
    omega

theorem div_bd (n d B : Int) (hd : 0 < d) (h1 : -B ≤ n) (h2 : n ≤ B) : -B ≤ n / d ∧ n / d ≤ B := by
  have e := Int.mul_ediv_add_emod n d
  have m0 := Int.emod_nonneg n (Int.ne_of_gt hd)
  have m1 := Int.emod_lt_of_pos n hd
  constructor
  · rcases Int.lt_or_le (n / d) (-B) with h | h
    · exfalso
      have h3 : d * (n / d) ≤ d * (-B - 1) := Int.mul_le_mul_of_nonneg_left (by omega) (by omega)
      have h4 : d * (-B - 1) = -(d * B) - d := by rw [Int.mul_sub, Int.mul_neg, Int.mul_one]
      have h5 : 1 * B ≤ d * B := Int.mul_le_mul_of_nonneg_right (by omega) (by omega)
      omega
    · exact h
  · rcases Int.lt_or_le B (n / d) with h | h
    · exfalso
      have h3 : d * (B + 1) ≤ d * (n / d) := Int.mul_le_mul_of_nonneg_left (by omega) (by omega)
      have h4 : d * (B + 1) = d * B + d := by rw [Int.mul_add, Int.mul_one]
      have h5 : 1 * B ≤ d * B := Int.mul_le_mul_of_nonneg_right (by omega) (by omega)
      omega
    · exact h

theorem rnd_bd (n d B : Int) (hd : 0 < d) (h1 : -B ≤ n) (h2 : n ≤ B) : -B ≤ rnd n d ∧ rnd n d ≤ B + 1 := by
  have := div_bd n d B hd h1 h2
  unfold rnd
  split <;> omega

end Go.Proofs.Ytakdjgldcpompaa
