import Derived.Test.YtjhaakollekjeaaDoorO9
namespace Go.Proofs.YtjhaakollekjeaaDoor
open Go.RowKit
set_option linter.unusedVariables false
set_option linter.unusedSimpArgs false

/-- The quotient rounded to the nearest, halves up. -/
def rnd (n d : Int) : Int := if d - n % d ≤ n % d then n / d + 1 else n / d

theorem tdiv_neg_ (n d : Int) (hn : n < 0) (hd : 0 < d) : n.tdiv d = (if n % d = 0 then n / d else n / d + 1) ∧ n.tmod d = (if n % d = 0 then 0 else n % d - d) := by
 have h1 := Int.tdiv_eq_ediv (a := n) (b := d)
 have h2 := Int.tmod_eq_emod (a := n) (b := d)
 have hs : Int.sign d = 1 := Int.sign_eq_one_of_pos hd
 rw [hs] at h1
 by_cases h : n % d = 0
 ·have hdv : d ∣ n := Int.dvd_of_emod_eq_zero h
  rw [if_pos (Or.inr hdv)] at h1 h2
  rw [if_pos h, if_pos h]
  omega
 ·have hdv : ¬ d ∣ n := fun hd' => h (Int.emod_eq_zero_of_dvd hd')
  have hnn : ¬ (0 ≤ n ∨ d ∣ n) := by omega
  rw [if_neg hnn] at h1 h2
  rw [if_neg h, if_neg h]
  omega

theorem div_bd (n d B : Int) (hd : 0 < d) (h1 : -B ≤ n) (h2 : n ≤ B) : -B ≤ n / d ∧ n / d ≤ B := by
 have e := Int.mul_ediv_add_emod n d
 have m0 := Int.emod_nonneg n (Int.ne_of_gt hd)
 have m1 := Int.emod_lt_of_pos n hd
 constructor
 ·rcases Int.lt_or_le (n / d) (-B) with h | h
  ·exfalso
   have h3 : d * (n / d) ≤ d * (-B - 1) := Int.mul_le_mul_of_nonneg_left (by omega) (by omega)
   have h4 : d * (-B - 1) = -(d * B) - d := by rw [Int.mul_sub, Int.mul_neg, Int.mul_one]
   have h5 : 1 * B ≤ d * B := Int.mul_le_mul_of_nonneg_right (by omega) (by omega)
   omega
  ·exact h
 ·rcases Int.lt_or_le B (n / d) with h | h
  ·exfalso
   have h3 : d * (B + 1) ≤ d * (n / d) := Int.mul_le_mul_of_nonneg_left (by omega) (by omega)
   have h4 : d * (B + 1) = d * B + d := by rw [Int.mul_add, Int.mul_one]
   have h5 : 1 * B ≤ d * B := Int.mul_le_mul_of_nonneg_right (by omega) (by omega)
   omega
  ·exact h

theorem floorDiv_any (n d : Int) (w : World) (hd : 1 ≤ d) (hd' : d ≤ 2305843009213693952) (h1 : -2305843009213693952 ≤ n) (h2 : n ≤ 2305843009213693952) :
  Calls Tryd.prog 105 #[.int .i64 n, .int .i64 d] w fun e w' => e = .returned (.int .i64 (n / d)) ∧ w = w' := by
 obtain ⟨b1, b2⟩ := div_bd n d 2305843009213693952 (by omega) h1 h2
 have m0 := Int.emod_nonneg n (show d ≠ 0 by omega)
 have m1 := Int.emod_lt_of_pos n (show 0 < d by omega)
 by_cases hn : 0 ≤ n
 ·go_enter Tryd.func105, Tryd.ntmps105
  go_wp2
  go_ret
  exact ⟨rfl, rfl⟩
 ·obtain ⟨e1, e2⟩ := tdiv_neg_ n d (by omega) (by omega)
  by_cases hm : n % d = 0
  ·rw [if_pos hm] at e1 e2
   have H := Lib.hid hm
   clear hm
   go_enter Tryd.func105, Tryd.ntmps105
   go_wp2
   go_ret
   exact ⟨rfl, rfl⟩
  ·rw [if_neg hm] at e1 e2
   go_enter Tryd.func105, Tryd.ntmps105
   go_wp2
   go_ret
   exact ⟨by simp, rfl⟩

theorem DivRound_any (n d : Int) (w : World) (hd : 1 ≤ d) (hd' : d ≤ 2305843009213693952) (h1 : -2305843009213693952 ≤ n) (h2 : n ≤ 2305843009213693952) :
  Calls Tryd.prog 88 #[.int .i64 n, .int .i64 d] w fun e w' => e = .returned (.int .i64 (rnd n d)) ∧ w = w' := by
 obtain ⟨b1, b2⟩ := div_bd n d 2305843009213693952 (by omega) h1 h2
 have m0 := Int.emod_nonneg n (show d ≠ 0 by omega)
 have m1 := Int.emod_lt_of_pos n (show 0 < d by omega)
 have hr : (d - n % d ≤ n % d → rnd n d = n / d + 1) ∧ (¬ d - n % d ≤ n % d → rnd n d = n / d) := by
  unfold rnd; exact ⟨fun h => if_pos h, fun h => if_neg h⟩
 have HR := Lib.hid hr
 clear hr
 have em := Int.mul_ediv_add_emod n d
 rw [Int.mul_comm] at em
 have c1 : -2305843009213693952 - d ≤ n / d * d := by omega
 have c2 : n / d * d ≤ 2305843009213693952 := by omega
 have EM := Lib.hid em
 clear em
 have e3 : n - n / d * d = n % d := by have := EM.out; omega
 by_cases hq : d - n % d ≤ n % d
 all_goals
  go_enter Tryd.func88, Tryd.ntmps88
  go_wp2_with (go_at_call 105; refine (floorDiv_any _ _ _ hd hd' h1 h2).mono ?_; rintro e w1 ⟨rfl, rfl⟩)
  all_goals
   go_ret
   first | exact ⟨by rw [HR.out.1 (by omega)]; rfl, rfl⟩ | exact ⟨by rw [HR.out.2 (by omega)]; rfl, rfl⟩
end Go.Proofs.YtjhaakollekjeaaDoor

namespace Go.Proofs.YtjhaakollekjeaaDoor
open Go.RowKit
set_option linter.unusedVariables false
set_option linter.unusedSimpArgs false

/-- Twice the signed area of a triangle. -/
def trn (ax ay bx b_y cx cy : Int) : Int := (bx - ax) * (cy - ay) - (b_y - ay) * (cx - ax)

end Go.Proofs.YtjhaakollekjeaaDoor
