/- Rings with fewer points: whether a point is near a segment, products of two words, which points stay, ThinRing on both sides. -/
import Derived.Test.YtnalgllmdpcjcaaMeetS
import Derived.Shelf.Bits.Mul64
import Derived.Laws.BitsAllLaws
import Derived.Test.YtnalgllmdpcjcaaSimp2
import Derived.Test.YtnalgllmdpcjcaaCopy
namespace Go.Proofs.Ytnalgllmdpcjcaa
open Go Go.RowKit
set_option linter.unusedVariables false
set_option linter.unusedSimpArgs false
set_option maxRecDepth 100000
set_option maxHeartbeats 4000000
set_option linter.unusedVariables false
set_option linter.unusedSimpArgs false

/-- The square of a distance; how far along. -/
def dsq (a b : Pn) : Int := (b.1 - a.1) * (b.1 - a.1) + (b.2 - a.2) * (b.2 - a.2)
def alg (a b p : Pn) : Int := (p.1 - a.1) * (b.1 - a.1) + (p.2 - a.2) * (b.2 - a.2)
/-- Whether a point is near a segment: the program's way, the reference's. -/
def nearI (a b p : Pn) (r : Int) : Bool :=
  if alg a b p ≤ 0 then decide (dsq a p ≤ r * r) else if dsq a b ≤ alg a b p then decide (dsq b p ≤ r * r) else decide (tn a b p * tn a b p ≤ r * r * dsq a b)
def nearS (a b p : Pn) (r : Int) : Bool :=
  if dsq a p ≤ r * r ∨ dsq b p ≤ r * r then true else if alg a b p ≤ 0 ∨ dsq a b ≤ alg a b p then false else decide (tn a b p * tn a b p ≤ r * r * dsq a b)
theorem sq_nonneg (x : Int) : 0 ≤ x * x := by
  rcases Int.le_total 0 x with h | h
  · exact Int.mul_nonneg h h
  · have := Int.mul_nonneg (show 0 ≤ -x by omega) (show 0 ≤ -x by omega)
    grind
theorem near_same (a b p : Pn) (r : Int) : nearI a b p r = nearS a b p r := by
  unfold nearI nearS
  have e1 : dsq b p = dsq a p - 2 * alg a b p + dsq a b := by simp only [dsq, alg]; grind
  have e2 : tn a b p * tn a b p = dsq a p * dsq a b - alg a b p * alg a b p := by simp only [dsq, alg, tn, trn]; grind
  have e3 : 0 ≤ dsq a b := by have := sq_nonneg (b.1 - a.1); have := sq_nonneg (b.2 - a.2); unfold dsq; omega
  have e4 : tn a b p * tn a b p = dsq b p * dsq a b - (dsq a b - alg a b p) * (dsq a b - alg a b p) := by rw [e2, e1]; grind
  by_cases h1 : alg a b p ≤ 0
  · rw [if_pos h1]
    by_cases h2 : dsq a p ≤ r * r
    · rw [if_pos (.inl h2)]; simp [h2]
    · rw [if_neg (by omega), if_pos (.inl h1)]; simp; omega
  · rw [if_neg h1]
    by_cases h2 : dsq a b ≤ alg a b p
    · rw [if_pos h2]
      by_cases h3 : dsq b p ≤ r * r
      · rw [if_pos (.inr h3)]; simp [h3]
      · rw [if_neg (by omega), if_pos (.inr h2)]; simp; omega
    · rw [if_neg h2]
      by_cases h3 : dsq a p ≤ r * r
      · rw [if_pos (.inl h3)]
        have k1 : dsq a p * dsq a b ≤ r * r * dsq a b := Int.mul_le_mul_of_nonneg_right h3 e3
        have k2 := sq_nonneg (alg a b p)
        simp; omega
      · by_cases h4 : dsq b p ≤ r * r
        · rw [if_pos (.inr h4)]
          have k1 : dsq b p * dsq a b ≤ r * r * dsq a b := Int.mul_le_mul_of_nonneg_right h4 e3
          have k2 := sq_nonneg (dsq a b - alg a b p)
          simp; omega
        · rw [if_neg (by omega), if_neg (by omega)]

/-! ### Sizes -/
theorem mulB {x y B : Int} (h1 : -B ≤ x ∧ x ≤ B) (h2 : -B ≤ y ∧ y ≤ B) : -(B * B) ≤ x * y ∧ x * y ≤ B * B := by
  have a1 := Int.mul_nonneg (show 0 ≤ B - x by omega) (show 0 ≤ B - y by omega)
  have a2 := Int.mul_nonneg (show 0 ≤ B + x by omega) (show 0 ≤ B + y by omega)
  have a3 := Int.mul_nonneg (show 0 ≤ B - x by omega) (show 0 ≤ B + y by omega)
  have a4 := Int.mul_nonneg (show 0 ≤ B + x by omega) (show 0 ≤ B - y by omega)
  constructor <;> grind
theorem bd2_diff {a b : Pn} (ha : bd2 a) (hb : bd2 b) : (-524288 ≤ b.1 - a.1 ∧ b.1 - a.1 ≤ 524288) ∧ -524288 ≤ b.2 - a.2 ∧ b.2 - a.2 ≤ 524288 := by
  obtain ⟨⟨h1, h2⟩, h3, h4⟩ := ha
  obtain ⟨⟨k1, k2⟩, k3, k4⟩ := hb
  omega
theorem dsq_bd {a b : Pn} (ha : bd2 a) (hb : bd2 b) : 0 ≤ dsq a b ∧ dsq a b ≤ 549755813888 := by
  have hd := bd2_diff ha hb
  have h1 := mulB hd.1 hd.1
  have h2 := mulB hd.2 hd.2
  have := sq_nonneg (b.1 - a.1)
  have := sq_nonneg (b.2 - a.2)
  unfold dsq
  omega
theorem tn_bd {a b c : Pn} (ha : bd2 a) (hb : bd2 b) (hc : bd2 c) : -549755813888 ≤ tn a b c ∧ tn a b c ≤ 549755813888 := by
  have hd := bd2_diff ha hb
  have he := bd2_diff ha hc
  have h1 := mulB hd.1 he.2
  have h2 := mulB hd.2 he.1
  unfold tn trn
  omega

/-! ### Products of two words -/
theorem Mul64_any (x y : Nat) (hx : x < 18446744073709551616) (hy : y < 18446744073709551616) (w : World) :
    Calls Try.prog 178 #[.int .u64 x, .int .u64 y] w fun e w' => e = .returned (.tuple #[.int .u64 ((x * y / 18446744073709551616 : Nat) : Int), .int .u64 ((x * y % 18446744073709551616 : Nat) : Int)]) ∧ w = w' := by
  obtain ⟨bd, bt, bw, hhi⟩ := Lib.mul64_hi x y hx hy
  have ba := Lib.half_mul_le (a := x / 4294967296) (b := y / 4294967296) (by omega) (by omega)
  have bb := Lib.half_mul_le (a := x / 4294967296) (b := y % 4294967296) (by omega) (by omega)
  have bc := Lib.half_mul_le (a := x % 4294967296) (b := y / 4294967296) (by omega) (by omega)
  have ba' : x / 4294967296 * (y / 4294967296) < 18446744073709551616 := by omega
  have bb' : x / 4294967296 * (y % 4294967296) < 18446744073709551616 := by omega
  have bc' : x % 4294967296 * (y / 4294967296) < 18446744073709551616 := by omega
  have bh1 : x / 4294967296 * (y / 4294967296) + (x / 4294967296 * (y % 4294967296) + x % 4294967296 * (y % 4294967296) / 4294967296) / 4294967296 < 18446744073709551616 := by omega
  have bh : x / 4294967296 * (y / 4294967296) + (x / 4294967296 * (y % 4294967296) + x % 4294967296 * (y % 4294967296) / 4294967296) / 4294967296 + ((x / 4294967296 * (y % 4294967296) + x % 4294967296 * (y % 4294967296) / 4294967296) % 4294967296 + x % 4294967296 * (y / 4294967296)) / 4294967296 < 18446744073709551616 := by omega
  go_enter Try.func178, Try.ntmps178
  go_wp2
  simp only [Mul64.maskN x hx, Mul64.maskN y hy, Mul64.divN, Mul64.mulN, Mul64.addN, Mul64.wrapN _ bd, Mul64.wrapN _ bb', Mul64.wrapN _ bt, Mul64.maskN _ bt, Mul64.wrapN _ bc', Mul64.wrapN _ bw, Mul64.wrapN _ ba', Mul64.wrapN _ bh1, Mul64.wrapN _ bh, Mul64.wrapM (x * y)]
  rw [hhi]
  go_ret2
  exact ⟨rfl, rfl⟩
/-- Two words: which of two numbers is less. -/
theorem words_le (m n K : Nat) (hK : 0 < K) : (m / K < n / K ∨ m / K = n / K ∧ m % K ≤ n % K) ↔ m ≤ n := by
  have e1 := Nat.div_add_mod m K
  have e2 := Nat.div_add_mod n K
  have l1 := Nat.mod_lt m hK
  have l2 := Nat.mod_lt n hK
  constructor
  · rintro (h | ⟨h, h'⟩)
    · have : K * (m / K + 1) ≤ K * (n / K) := Nat.mul_le_mul_left K h
      rw [Nat.mul_add] at this
      omega
    · rw [h] at e1; omega
  · intro h
    rcases Nat.lt_trichotomy (m / K) (n / K) with h1 | h1 | h1
    · exact .inl h1
    · rw [h1] at e1; exact .inr ⟨h1, by omega⟩
    · have : K * (n / K + 1) ≤ K * (m / K) := Nat.mul_le_mul_left K h1
      rw [Nat.mul_add] at this
      omega
theorem wrapP (a : Nat) (ha : a < 18446744073709551616) : IntKind.u64.wrap (a : Int) = (a : Int) := Mul64.wrapN a ha
theorem productAtMost_any (a b c d : Nat) (ha : a < 4611686018427387904) (hb : b < 4611686018427387904) (hc : c < 4611686018427387904) (hd : d < 4611686018427387904) (w : World) :
    Calls Try.prog 159 #[.int .i64 a, .int .i64 b, .int .i64 c, .int .i64 d] w fun e w' => e = .returned (.bool (decide (a * b ≤ c * d))) ∧ w = w' := by
  have wa := wrapP a (by omega)
  have wb := wrapP b (by omega)
  have wc := wrapP c (by omega)
  have wd := wrapP d (by omega)
  have hk := words_le (a * b) (c * d) 18446744073709551616 (by decide)
  have m1 : Calls Try.prog 178 #[.int .u64 a, .int .u64 b] w fun e w' => e = .returned (.tuple #[.int .u64 ((a * b / 18446744073709551616 : Nat) : Int), .int .u64 ((a * b % 18446744073709551616 : Nat) : Int)]) ∧ w = w' := Mul64_any a b (by omega) (by omega) w
  have m2 : Calls Try.prog 178 #[.int .u64 c, .int .u64 d] w fun e w' => e = .returned (.tuple #[.int .u64 ((c * d / 18446744073709551616 : Nat) : Int), .int .u64 ((c * d % 18446744073709551616 : Nat) : Int)]) ∧ w = w' := Mul64_any c d (by omega) (by omega) w
  rw [show decide (a * b ≤ c * d) = decide (a * b / 18446744073709551616 < c * d / 18446744073709551616 ∨ a * b / 18446744073709551616 = c * d / 18446744073709551616 ∧ a * b % 18446744073709551616 ≤ c * d % 18446744073709551616) from decide_eq_decide.2 hk.symm]
  clear hk
  generalize a * b / 18446744073709551616 = h1 at *
  generalize a * b % 18446744073709551616 = l1 at *
  generalize c * d / 18446744073709551616 = h2 at *
  generalize c * d % 18446744073709551616 = l2 at *
  go_enter Try.func159, Try.ntmps159
  go_wp2_with fail
  go_at_call 178
  refine m1.mono ?_
  rintro e w1 ⟨rfl, rfl⟩
  go_wp2_with fail
  go_at_call 178
  refine m2.mono ?_
  rintro e w1 ⟨rfl, rfl⟩
  go_wp2_with fail
  all_goals go_ret
  all_goals (refine ⟨congrArg Ending.returned (congrArg Value.bool (Bool.eq_iff_iff.2 ?_)), rfl⟩)
  all_goals (simp only [Bool.or_eq_true, decide_eq_true_eq, true_iff, Bool.true_eq]; omega)

/-! ### The reference's words of 31 bits -/
theorem wrapI (a : Int) (h1 : -9223372036854775808 ≤ a) (h2 : a ≤ 9223372036854775807) : IntKind.i64.wrap a = a := by simp [IntKind.wrap, IntKind.bits, IntKind.signed]; omega
theorem i64_and_nat (a b : Nat) (ha : a < 9223372036854775808) (hb : b < 9223372036854775808) : bits .and .i64 (a : Int) (b : Int) = ((a &&& b : Nat) : Int) := by
  have hx : a &&& b < 2 ^ 63 := Nat.and_lt_two_pow _ (by omega)
  show IntKind.i64.wrap ((BitVec.ofInt 64 (a : Int) &&& BitVec.ofInt 64 (b : Int)).toNat : Int) = _
  rw [BitVec.toNat_and, ofInt_u64 a (by omega), ofInt_u64 b (by omega), wrapI _ (by omega) (by omega)]
theorem i64_or_nat (a b : Nat) (ha : a < 9223372036854775808) (hb : b < 9223372036854775808) : bits .or .i64 (a : Int) (b : Int) = ((a ||| b : Nat) : Int) := by
  have hx : a ||| b < 2 ^ 63 := Nat.or_lt_two_pow (by omega) (by omega)
  show IntKind.i64.wrap ((BitVec.ofInt 64 (a : Int) ||| BitVec.ofInt 64 (b : Int)).toNat : Int) = _
  rw [BitVec.toNat_or, ofInt_u64 a (by omega), ofInt_u64 b (by omega), wrapI _ (by omega) (by omega)]
theorem and31 (a : Nat) (ha : a < 9223372036854775808) : bits .and .i64 (a : Int) 2147483647 = ((a % 2147483648 : Nat) : Int) := by
  have h := i64_and_nat a 2147483647 ha (by omega)
  rw [show a &&& 2147483647 = a % 2147483648 from Nat.and_two_pow_sub_one_eq_mod a 31] at h
  exact h
theorem or31 (a b : Nat) (ha : a < 2147483648) (hb : b < 2147483648) : bits .or .i64 ((a * 2147483648 : Nat) : Int) (b : Int) = ((a * 2147483648 + b : Nat) : Int) := by
  have h := i64_or_nat (a * 2147483648) b (by omega) (by omega)
  rw [nat_join 31 (a * 2147483648) b (by omega) (by omega)] at h
  exact h
theorem wrapW (a : Nat) (ha : a < 9223372036854775808) : wrap64 (a : Int) = (a : Int) := by unfold wrap64; omega
theorem divW (a : Nat) : (a : Int) / 2147483648 = ((a / 2147483648 : Nat) : Int) := by omega
theorem mulW (a : Nat) : (a : Int) * 2147483648 = ((a * 2147483648 : Nat) : Int) := by omega
theorem mul62 (x y : Nat) (hx : x < 1152921504606846976) (hy : y < 1152921504606846976) :
    (x % 2147483648) * (y % 2147483648) < 9223372036854775808 ∧ (x / 2147483648) * (y % 2147483648) < 4611686018427387904 ∧ (x % 2147483648) * (y / 2147483648) < 4611686018427387904 ∧
    (x / 2147483648) * (y % 2147483648) + (x % 2147483648) * (y / 2147483648) < 9223372036854775808 ∧
    (x / 2147483648) * (y % 2147483648) + (x % 2147483648) * (y / 2147483648) + (x % 2147483648) * (y % 2147483648) / 2147483648 < 9223372036854775808 ∧
    (x / 2147483648) * (y / 2147483648) < 9223372036854775808 ∧
    (x / 2147483648) * (y / 2147483648) + ((x / 2147483648) * (y % 2147483648) + (x % 2147483648) * (y / 2147483648) + (x % 2147483648) * (y % 2147483648) / 2147483648) / 2147483648 < 9223372036854775808 ∧
    (x / 2147483648) * (y / 2147483648) + ((x / 2147483648) * (y % 2147483648) + (x % 2147483648) * (y / 2147483648) + (x % 2147483648) * (y % 2147483648) / 2147483648) / 2147483648 = x * y / 4611686018427387904 ∧
    ((x / 2147483648) * (y % 2147483648) + (x % 2147483648) * (y / 2147483648) + (x % 2147483648) * (y % 2147483648) / 2147483648) % 2147483648 * 2147483648 + (x % 2147483648) * (y % 2147483648) % 2147483648 = x * y % 4611686018427387904 := by
  have e : x * y = (x / 2147483648) * (y / 2147483648) * (2147483648 * 2147483648) + ((x / 2147483648) * (y % 2147483648) + (x % 2147483648) * (y / 2147483648)) * 2147483648 + (x % 2147483648) * (y % 2147483648) := by
    rw [← Lib.split_mul, Nat.div_add_mod' x 2147483648, Nat.div_add_mod' y 2147483648]
  have ha : x / 2147483648 * (y / 2147483648) ≤ 536870912 * 536870912 := Nat.mul_le_mul (by omega) (by omega)
  have hb : x / 2147483648 * (y % 2147483648) ≤ 536870912 * 2147483648 := Nat.mul_le_mul (by omega) (by omega)
  have hc : x % 2147483648 * (y / 2147483648) ≤ 2147483648 * 536870912 := Nat.mul_le_mul (by omega) (by omega)
  have hd : x % 2147483648 * (y % 2147483648) ≤ 2147483647 * 2147483647 := Nat.mul_le_mul (by omega) (by omega)
  rw [e]
  generalize (x / 2147483648) * (y / 2147483648) = a at *
  generalize (x / 2147483648) * (y % 2147483648) = b at *
  generalize (x % 2147483648) * (y / 2147483648) = c at *
  generalize (x % 2147483648) * (y % 2147483648) = d at *
  refine ⟨by omega, by omega, by omega, by omega, by omega, by omega, by omega, by omega, by omega⟩
theorem l03Wide_any (a b : Nat) (ha : a < 1152921504606846976) (hb : b < 1152921504606846976) (w : World) :
    Calls Try.prog 177 #[.int .i64 a, .int .i64 b] w fun e w' => e = .returned (.tuple #[.int .i64 ((a * b / 4611686018427387904 : Nat) : Int), .int .i64 ((a * b % 4611686018427387904 : Nat) : Int)]) ∧ w = w' := by
  obtain ⟨h1, h2, h3, h4, h5, h6, h7, h8, h9⟩ := mul62 a b ha hb
  have q := Nat.mod_lt ((a / 2147483648) * (b % 2147483648) + (a % 2147483648) * (b / 2147483648) + (a % 2147483648) * (b % 2147483648) / 2147483648) (show 0 < 2147483648 by decide)
  have q2 := Nat.mod_lt ((a % 2147483648) * (b % 2147483648)) (show 0 < 2147483648 by decide)
  go_enter Try.func177, Try.ntmps177
  go_wp2
  simp only [and31 a (by omega), and31 b (by omega), divW, Mul64.mulN, Mul64.addN, wrapW _ h1, wrapW _ (Nat.lt_trans h2 (by decide)), wrapW _ (Nat.lt_trans h3 (by decide)), wrapW _ h4, wrapW _ h5, wrapW _ h6, wrapW _ h7, and31 _ h1, and31 _ h5, mulW, wrapW _ (show _ * 2147483648 < 9223372036854775808 from Nat.lt_of_le_of_lt (Nat.mul_le_mul_right 2147483648 (Nat.le_of_lt_succ q)) (by decide)), or31 _ _ q q2]
  rw [h8, h9]
  go_ret2
  exact ⟨rfl, rfl⟩
/-! ### Near, walked -/
theorem productAtMost_p (a b c d : Int) (h : (0 ≤ a ∧ a < 1152921504606846976) ∧ (0 ≤ b ∧ b < 1152921504606846976) ∧ (0 ≤ c ∧ c < 1152921504606846976) ∧ 0 ≤ d ∧ d < 1152921504606846976) (w : World) :
    Calls Try.prog 159 #[.int .i64 a, .int .i64 b, .int .i64 c, .int .i64 d] w fun e w' => e = .returned (.bool (decide (a * b ≤ c * d))) ∧ Over w w' := by
  obtain ⟨A, rfl⟩ := Int.eq_ofNat_of_zero_le h.1.1
  obtain ⟨B, rfl⟩ := Int.eq_ofNat_of_zero_le h.2.1.1
  obtain ⟨C, rfl⟩ := Int.eq_ofNat_of_zero_le h.2.2.1.1
  obtain ⟨D, rfl⟩ := Int.eq_ofNat_of_zero_le h.2.2.2.1
  refine (productAtMost_any A B C D (by omega) (by omega) (by omega) (by omega) w).mono ?_
  rintro e w' ⟨rfl, rfl⟩
  refine ⟨congrArg Ending.returned (congrArg Value.bool (decide_eq_decide.2 ?_)), Over.refl _⟩
  rw [← Int.natCast_mul, ← Int.natCast_mul]
  exact Int.ofNat_le.symm
theorem distSq_p (a b : Pn) (w : World) (ha : bd2 a) (hb : bd2 b) : Calls Try.prog 131 #[pV a, pV b] w fun e w' => e = .returned (.int .i64 (dsq a b)) ∧ Over w w' := by
  have hd := bd2_diff ha hb
  have h1 := mulB hd.1 hd.1
  have h2 := mulB hd.2 hd.2
  refine walk_from (m := 24) (Try.func131) rfl rfl (Nat.le_of_ble_eq_true rfl) ?_
  refine at_seq ?_
  refine at_region ?_
  refine at_op rfl ?_
  refine op_box rfl rfl (rfl) rfl (by decide) (fun b1 => ?_)
  refine at_rsE (by simp only [List.nil_append, List.cons_append, List.set_cons_zero, List.set_cons_succ, Value.cells, List.toList_toArray]; rfl) ?_
  refine at_op rfl ?_
  refine op_box rfl rfl (rfl) rfl (by decide) (fun b2 => ?_)
  refine at_rsE (by simp only [List.nil_append, List.cons_append, List.set_cons_zero, List.set_cons_succ, Value.cells, List.toList_toArray]; rfl) ?_
  refine at_q rfl rfl (by decide) (qt_assign rfl rfl) ?_
  refine at_end ?_
  refine at_seq ?_
  refine dg_start mixed rfl ?_
  refine dg_phase 12 ?_
  refine dg_q (i := 0) rfl (by kernel_rfl) (by kernel_rfl) (by kernel_rfl) [] (by kernel_rfl) (fun _ _ _ h => h) rfl rfl (by decide) (fun _ h => h.upto ⟨rfl, rfl, trivial⟩) (qt_fieldAddr rfl rfl tyf_impl_Pt_0) ?_
  refine dg_q (i := 1) rfl (by kernel_rfl) (by kernel_rfl) (by kernel_rfl) [] (by kernel_rfl) (fun _ _ _ h => h) rfl rfl (by decide) (fun _ h => h.upto ⟨rfl, rfl, trivial⟩) (qt_load1 rfl rfl ty1_int64 (rd1 (k := 1) rfl rfl)) ?_
  refine dg_q (i := 2) rfl (by kernel_rfl) (by kernel_rfl) (by kernel_rfl) [] (by kernel_rfl) (fun _ _ _ h => h) rfl rfl (by decide) (fun _ h => h.upto ⟨rfl, rfl, trivial⟩) (qt_fieldAddr rfl rfl tyf_impl_Pt_0) ?_
  refine dg_q (i := 3) rfl (by kernel_rfl) (by kernel_rfl) (by kernel_rfl) [] (by kernel_rfl) (fun _ _ _ h => h) rfl rfl (by decide) (fun _ h => h.upto ⟨rfl, rfl, trivial⟩) (qt_load1 rfl rfl ty1_int64 (rd1 (k := 0) rfl rfl)) ?_
  refine dg_q (i := 4) rfl (by kernel_rfl) (by kernel_rfl) (by kernel_rfl) [] (by kernel_rfl) (fun _ _ _ h => h) rfl rfl (by decide) (fun _ h => h.upto ⟨rfl, rfl, trivial⟩) (qt_sub rfl rfl rfl (by omega) (by omega)) ?_
  refine dg_q (i := 5) rfl (by kernel_rfl) (by kernel_rfl) (by kernel_rfl) [] (by kernel_rfl) (fun _ _ _ h => h) rfl rfl (by decide) (fun _ h => h.upto ⟨rfl, rfl, trivial⟩) (qt_fieldAddr rfl rfl tyf_impl_Pt_1) ?_
  refine dg_q (i := 6) rfl (by kernel_rfl) (by kernel_rfl) (by kernel_rfl) [] (by kernel_rfl) (fun _ _ _ h => h) rfl rfl (by decide) (fun _ h => h.upto ⟨rfl, rfl, trivial⟩) (qt_load1 rfl rfl ty1_int64 (rd1 (k := 1) rfl rfl)) ?_
  refine dg_q (i := 7) rfl (by kernel_rfl) (by kernel_rfl) (by kernel_rfl) [] (by kernel_rfl) (fun _ _ _ h => h) rfl rfl (by decide) (fun _ h => h.upto ⟨rfl, rfl, trivial⟩) (qt_fieldAddr rfl rfl tyf_impl_Pt_1) ?_
  refine dg_q (i := 8) rfl (by kernel_rfl) (by kernel_rfl) (by kernel_rfl) [] (by kernel_rfl) (fun _ _ _ h => h) rfl rfl (by decide) (fun _ h => h.upto ⟨rfl, rfl, trivial⟩) (qt_load1 rfl rfl ty1_int64 (rd1 (k := 0) rfl rfl)) ?_
  refine dg_q (i := 9) rfl (by kernel_rfl) (by kernel_rfl) (by kernel_rfl) [] (by kernel_rfl) (fun _ _ _ h => h) rfl rfl (by decide) (fun _ h => h.upto ⟨rfl, rfl, trivial⟩) (qt_sub rfl rfl rfl (by omega) (by omega)) ?_
  refine dg_q (i := 10) rfl (by kernel_rfl) (by kernel_rfl) (by kernel_rfl) [] (by kernel_rfl) (fun _ _ _ h => h) rfl rfl (by decide) (fun _ h => h.upto ⟨rfl, rfl, trivial⟩) (qt_assign rfl rfl) ?_
  refine dg_q (i := 11) rfl (by kernel_rfl) (by kernel_rfl) (by kernel_rfl) [] (by kernel_rfl) (fun _ _ _ h => h) rfl rfl (by decide) (fun _ h => h.upto ⟨rfl, rfl, trivial⟩) (qt_assign rfl rfl) ?_
  refine dg_done (by kernel_rfl) ?_
  refine norm_then ?_
  refine at_seq ?_
  refine at_region ?_
  refine at_q rfl rfl (by decide) (qt_move rfl rfl) ?_
  refine at_q rfl rfl (by decide) (qt_move rfl rfl) ?_
  refine at_q rfl rfl (by decide) (qt_mul rfl rfl rfl (by omega) (by omega)) ?_
  refine at_q rfl rfl (by decide) (qt_move rfl rfl) ?_
  refine at_q rfl rfl (by decide) (qt_move rfl rfl) ?_
  refine at_q rfl rfl (by decide) (qt_mul rfl rfl rfl (by omega) (by omega)) ?_
  refine at_q rfl rfl (by decide) (qt_add rfl rfl rfl (by omega) (by omega)) ?_
  refine at_q rfl rfl (by decide) (qt_assign rfl rfl) ?_
  refine at_end ?_
  refine at_retc ?_
  refine at_ret1 rfl (.tmp rfl) ?_
  intro w' hs
  exact ⟨rfl, hs.fin⟩
theorem l03Sq_p (a b : Pn) (w : World) (ha : bd2 a) (hb : bd2 b) : Calls Try.prog 129 #[pV a, pV b] w fun e w' => e = .returned (.int .i64 (dsq a b)) ∧ Over w w' := by
  have hd := bd2_diff ha hb
  have h1 := mulB hd.1 hd.1
  have h2 := mulB hd.2 hd.2
  refine walk_from (m := 28) (Try.func129) rfl rfl (Nat.le_of_ble_eq_true rfl) ?_
  refine at_seq ?_
  refine at_region ?_
  refine at_op rfl ?_
  refine op_box rfl rfl (rfl) rfl (by decide) (fun b1 => ?_)
  refine at_rsE (by simp only [List.nil_append, List.cons_append, List.set_cons_zero, List.set_cons_succ, Value.cells, List.toList_toArray]; rfl) ?_
  refine at_op rfl ?_
  refine op_box rfl rfl (rfl) rfl (by decide) (fun b2 => ?_)
  refine at_rsE (by simp only [List.nil_append, List.cons_append, List.set_cons_zero, List.set_cons_succ, Value.cells, List.toList_toArray]; rfl) ?_
  refine at_q rfl rfl (by decide) (qt_assign rfl rfl) ?_
  refine at_end ?_
  refine at_seq ?_
  refine at_region ?_
  refine at_q rfl rfl (by decide) (qt_fieldAddr rfl rfl tyf_impl_Pt_0) ?_
  refine at_q rfl rfl (by decide) (qt_load1 rfl rfl ty1_int64 (rd1 (k := 1) rfl rfl)) ?_
  refine at_q rfl rfl (by decide) (qt_fieldAddr rfl rfl tyf_impl_Pt_0) ?_
  refine at_q rfl rfl (by decide) (qt_load1 rfl rfl ty1_int64 (rd1 (k := 0) rfl rfl)) ?_
  refine at_q rfl rfl (by decide) (qt_sub rfl rfl rfl (by omega) (by omega)) ?_
  refine at_q rfl rfl (by decide) (qt_fieldAddr rfl rfl tyf_impl_Pt_0) ?_
  refine at_q rfl rfl (by decide) (qt_load1 rfl rfl ty1_int64 (rd1 (k := 1) rfl rfl)) ?_
  refine at_q rfl rfl (by decide) (qt_fieldAddr rfl rfl tyf_impl_Pt_0) ?_
  refine at_q rfl rfl (by decide) (qt_load1 rfl rfl ty1_int64 (rd1 (k := 0) rfl rfl)) ?_
  refine at_q rfl rfl (by decide) (qt_sub rfl rfl rfl (by omega) (by omega)) ?_
  refine at_q rfl rfl (by decide) (qt_mul rfl rfl rfl (by omega) (by omega)) ?_
  refine at_q rfl rfl (by decide) (qt_fieldAddr rfl rfl tyf_impl_Pt_1) ?_
  refine at_q rfl rfl (by decide) (qt_load1 rfl rfl ty1_int64 (rd1 (k := 1) rfl rfl)) ?_
  refine at_q rfl rfl (by decide) (qt_fieldAddr rfl rfl tyf_impl_Pt_1) ?_
  refine at_q rfl rfl (by decide) (qt_load1 rfl rfl ty1_int64 (rd1 (k := 0) rfl rfl)) ?_
  refine at_q rfl rfl (by decide) (qt_sub rfl rfl rfl (by omega) (by omega)) ?_
  refine at_q rfl rfl (by decide) (qt_fieldAddr rfl rfl tyf_impl_Pt_1) ?_
  refine at_q rfl rfl (by decide) (qt_load1 rfl rfl ty1_int64 (rd1 (k := 1) rfl rfl)) ?_
  refine at_q rfl rfl (by decide) (qt_fieldAddr rfl rfl tyf_impl_Pt_1) ?_
  refine at_q rfl rfl (by decide) (qt_load1 rfl rfl ty1_int64 (rd1 (k := 0) rfl rfl)) ?_
  refine at_q rfl rfl (by decide) (qt_sub rfl rfl rfl (by omega) (by omega)) ?_
  refine at_q rfl rfl (by decide) (qt_mul rfl rfl rfl (by omega) (by omega)) ?_
  refine at_q rfl rfl (by decide) (qt_add rfl rfl rfl (by omega) (by omega)) ?_
  refine at_q rfl rfl (by decide) (qt_assign rfl rfl) ?_
  refine at_end ?_
  refine at_retc ?_
  refine at_ret1 rfl (.tmp rfl) ?_
  intro w' hs
  exact ⟨rfl, hs.fin⟩
theorem l03Less_p (a b c d : Int) (h : (0 ≤ a ∧ a < 1152921504606846976) ∧ (0 ≤ b ∧ b < 1152921504606846976) ∧ (0 ≤ c ∧ c < 1152921504606846976) ∧ 0 ≤ d ∧ d < 1152921504606846976) (w : World) :
    Calls Try.prog 158 #[.int .i64 a, .int .i64 b, .int .i64 c, .int .i64 d] w fun e w' => e = .returned (.bool (decide (a * b ≤ c * d))) ∧ Over w w' := by
  obtain ⟨A, rfl⟩ := Int.eq_ofNat_of_zero_le h.1.1
  obtain ⟨B, rfl⟩ := Int.eq_ofNat_of_zero_le h.2.1.1
  obtain ⟨C, rfl⟩ := Int.eq_ofNat_of_zero_le h.2.2.1.1
  obtain ⟨D, rfl⟩ := Int.eq_ofNat_of_zero_le h.2.2.2.1
  rw [← Int.natCast_mul, ← Int.natCast_mul, show decide (((A * B : Nat) : Int) ≤ ((C * D : Nat) : Int)) = decide (A * B ≤ C * D) from decide_eq_decide.2 Int.ofNat_le]
  have hk := words_le (A * B) (C * D) 4611686018427387904 (by decide)
  refine walk_from (m := 38) (Try.func158) rfl rfl (Nat.le_of_ble_eq_true rfl) ?_
  refine at_seq ?_
  refine at_region ?_
  refine at_q rfl rfl (by decide) (qt_assign rfl rfl) ?_
  refine at_end ?_
  refine at_seq ?_
  refine at_region ?_
  refine at_q rfl rfl (by decide) (qt_move rfl rfl) ?_
  refine at_q rfl rfl (by decide) (qt_move rfl rfl) ?_
  refine at_q rfl rfl (by decide) (qt_call ok_spec_l03Wide rfl rfl (fun w h => Calls.still (l03Wide_any A B (by omega) (by omega) w))) ?_
  refine at_q rfl rfl (by decide) (qt_move rfl rfl) ?_
  refine at_q rfl rfl (by decide) (qt_extract rfl rfl rfl) ?_
  refine at_q rfl rfl (by decide) (qt_extract rfl rfl rfl) ?_
  refine at_q rfl rfl (by decide) (qt_assign rfl rfl) ?_
  refine at_q rfl rfl (by decide) (qt_assign rfl rfl) ?_
  refine at_end ?_
  refine at_seq ?_
  refine at_region ?_
  refine at_q rfl rfl (by decide) (qt_move rfl rfl) ?_
  refine at_q rfl rfl (by decide) (qt_move rfl rfl) ?_
  refine at_q rfl rfl (by decide) (qt_call ok_spec_l03Wide rfl rfl (fun w h => Calls.still (l03Wide_any C D (by omega) (by omega) w))) ?_
  refine at_q rfl rfl (by decide) (qt_move rfl rfl) ?_
  refine at_q rfl rfl (by decide) (qt_extract rfl rfl rfl) ?_
  refine at_q rfl rfl (by decide) (qt_extract rfl rfl rfl) ?_
  refine at_q rfl rfl (by decide) (qt_assign rfl rfl) ?_
  refine at_q rfl rfl (by decide) (qt_assign rfl rfl) ?_
  refine at_end ?_
  refine at_seq ?_
  refine at_region ?_
  refine at_q rfl rfl (by decide) (qt_move rfl rfl) ?_
  refine at_q rfl rfl (by decide) (qt_move rfl rfl) ?_
  refine at_q rfl rfl (by decide) (qt_lss rfl rfl rfl) ?_
  refine at_q rfl rfl (by decide) (qt_move rfl rfl) ?_
  refine at_bsplit 28 rfl (fun g1 => ?_) (fun g1 => ?_)
  · try simp only [decide_eq_true_eq, decide_eq_false_iff_not, beq_iff_eq, beq_eq_false_iff_ne, Bool.not_eq_true', Bool.not_eq_false', Bool.not_true, Bool.not_false, Int.not_lt, Int.not_le, ne_eq, Nat.not_lt, Nat.not_le] at g1
    refine at_off rfl rfl rfl rfl (by decide) rfl (by decide) ?_
    refine at_off rfl rfl rfl rfl (by decide) rfl (by decide) ?_
    refine at_off rfl rfl rfl rfl (by decide) rfl (by decide) ?_
    refine at_off rfl rfl rfl rfl (by decide) rfl (by decide) ?_
    refine at_offu rfl rfl rfl rfl rfl (by decide) ?_
    refine at_offu rfl rfl rfl rfl rfl (by decide) ?_
    refine at_offu rfl rfl rfl rfl rfl (by decide) ?_
    refine at_off rfl rfl rfl rfl (by decide) rfl (by decide) ?_
    refine at_q rfl rfl (by decide) (qt_pickT rfl rfl rfl) ?_
    refine at_q rfl rfl (by decide) (qt_assign rfl rfl) ?_
    refine at_end ?_
    refine at_retc ?_
    refine at_ret1 rfl (.tmp rfl) ?_
    intro w' hs
    exact ⟨congrArg Ending.returned (congrArg Value.bool (Bool.eq_iff_iff.2 ((show _ ↔ _ by simp; omega).trans (hk.trans decide_eq_true_iff.symm)))), hs.fin⟩
  · try simp only [decide_eq_true_eq, decide_eq_false_iff_not, beq_iff_eq, beq_eq_false_iff_ne, Bool.not_eq_true', Bool.not_eq_false', Bool.not_true, Bool.not_false, Int.not_lt, Int.not_le, ne_eq, Nat.not_lt, Nat.not_le] at g1
    refine at_on rfl rfl rfl rfl ?_
    refine op_q rfl (by decide) (qt_move rfl rfl) ?_
    refine at_on rfl rfl rfl rfl ?_
    refine op_q rfl (by decide) (qt_move rfl rfl) ?_
    refine at_on rfl rfl rfl rfl ?_
    refine op_q rfl (by decide) (qt_eql rfl rfl rfl) ?_
    refine at_on rfl rfl rfl rfl ?_
    refine op_q rfl (by decide) (qt_move rfl rfl) ?_
    refine at_bsplit 32 rfl (fun g2 => ?_) (fun g2 => ?_)
    · try simp only [decide_eq_true_eq, decide_eq_false_iff_not, beq_iff_eq, beq_eq_false_iff_ne, Bool.not_eq_true', Bool.not_eq_false', Bool.not_true, Bool.not_false, Int.not_lt, Int.not_le, ne_eq, Nat.not_lt, Nat.not_le] at g2
      refine at_on rfl rfl rfl rfl ?_
      refine op_q rfl (by decide) (qt_move rfl rfl) ?_
      refine at_on rfl rfl rfl rfl ?_
      refine op_q rfl (by decide) (qt_move rfl rfl) ?_
      refine at_on rfl rfl rfl rfl ?_
      refine op_q rfl (by decide) (qt_leq rfl rfl rfl) ?_
      refine at_on rfl rfl rfl rfl ?_
      refine op_q rfl (by decide) (qt_pickT rfl rfl rfl) ?_
      refine at_q rfl rfl (by decide) (qt_pickF rfl rfl rfl) ?_
      refine at_q rfl rfl (by decide) (qt_assign rfl rfl) ?_
      refine at_end ?_
      refine at_retc ?_
      refine at_ret1 rfl (.tmp rfl) ?_
      intro w' hs
      exact ⟨congrArg Ending.returned (congrArg Value.bool (Bool.eq_iff_iff.2 ((show _ ↔ _ by simp; omega).trans (hk.trans decide_eq_true_iff.symm)))), hs.fin⟩
    · try simp only [decide_eq_true_eq, decide_eq_false_iff_not, beq_iff_eq, beq_eq_false_iff_ne, Bool.not_eq_true', Bool.not_eq_false', Bool.not_true, Bool.not_false, Int.not_lt, Int.not_le, ne_eq, Nat.not_lt, Nat.not_le] at g2
      refine at_off rfl rfl rfl rfl (by decide) rfl (by decide) ?_
      refine at_off rfl rfl rfl rfl (by decide) rfl (by decide) ?_
      refine at_off rfl rfl rfl rfl (by decide) rfl (by decide) ?_
      refine at_on rfl rfl rfl rfl ?_
      refine op_q rfl (by decide) (qt_pickF rfl rfl rfl) ?_
      refine at_q rfl rfl (by decide) (qt_pickF rfl rfl rfl) ?_
      refine at_q rfl rfl (by decide) (qt_assign rfl rfl) ?_
      refine at_end ?_
      refine at_retc ?_
      refine at_ret1 rfl (.tmp rfl) ?_
      intro w' hs
      exact ⟨congrArg Ending.returned (congrArg Value.bool (Bool.eq_iff_iff.2 ((show _ ↔ _ by simp; omega).trans (hk.trans decide_eq_true_iff.symm)))), hs.fin⟩
theorem nearSegment_p (a b p : Pn) (r : Int) (w : World) (ha : bd2 a) (hb : bd2 b) (hp : bd2 p) (hr : 0 ≤ r ∧ r ≤ 262144) : Calls Try.prog 130 #[pV a, pV b, pV p, .int .i64 r] w fun e w' => e = .returned (.bool (nearS a b p r)) ∧ Over w w' := by
  have hd := bd2_diff ha hb
  have he := bd2_diff ha hp
  have h1 := mulB he.1 hd.1
  have h2 := mulB he.2 hd.2
  have hrr := mulB (B := 262144) (x := r) (y := r) (by omega) (by omega)
  have hr0 := sq_nonneg r
  have ht := tn_bd ha hb hp
  have hs0 := dsq_bd ha hb
  rw [← near_same]
  refine walk_from (m := 74) (Try.func130) rfl rfl (Nat.le_of_ble_eq_true rfl) ?_
  refine at_seq ?_
  refine at_region ?_
  refine at_op rfl ?_
  refine op_box rfl rfl (rfl) rfl (by decide) (fun b1 => ?_)
  refine at_rsE (by simp only [List.nil_append, List.cons_append, List.set_cons_zero, List.set_cons_succ, Value.cells, List.toList_toArray]; rfl) ?_
  refine at_op rfl ?_
  refine op_box rfl rfl (rfl) rfl (by decide) (fun b2 => ?_)
  refine at_rsE (by simp only [List.nil_append, List.cons_append, List.set_cons_zero, List.set_cons_succ, Value.cells, List.toList_toArray]; rfl) ?_
  refine at_op rfl ?_
  refine op_box rfl rfl (rfl) rfl (by decide) (fun b3 => ?_)
  refine at_rsE (by simp only [List.nil_append, List.cons_append, List.set_cons_zero, List.set_cons_succ, Value.cells, List.toList_toArray]; rfl) ?_
  refine at_q rfl rfl (by decide) (qt_assign rfl rfl) ?_
  refine at_end ?_
  refine at_seq ?_
  refine at_region ?_
  refine at_q rfl rfl (by decide) (qt_loadS rfl rfl tys_impl_Pt rfl (rdAll (k := 0) rfl)) ?_
  refine at_q rfl rfl (by decide) (qt_loadS rfl rfl tys_impl_Pt rfl (rdAll (k := 1) rfl)) ?_
  refine at_q rfl rfl (by decide) (qt_call ok_impl_distSq rfl rfl (fun w h => distSq_p _ _ w (by assumption) (by assumption))) ?_
  refine at_q rfl rfl (by decide) (qt_assign rfl rfl) ?_
  refine at_end ?_
  refine at_seq ?_
  refine at_region ?_
  refine at_q rfl rfl (by decide) (qt_fieldAddr rfl rfl tyf_impl_Pt_0) ?_
  refine at_q rfl rfl (by decide) (qt_load1 rfl rfl ty1_int64 (rd1 (k := 2) rfl rfl)) ?_
  refine at_q rfl rfl (by decide) (qt_fieldAddr rfl rfl tyf_impl_Pt_0) ?_
  refine at_q rfl rfl (by decide) (qt_load1 rfl rfl ty1_int64 (rd1 (k := 0) rfl rfl)) ?_
  refine at_q rfl rfl (by decide) (qt_sub rfl rfl rfl (by omega) (by omega)) ?_
  refine at_q rfl rfl (by decide) (qt_fieldAddr rfl rfl tyf_impl_Pt_0) ?_
  refine at_q rfl rfl (by decide) (qt_load1 rfl rfl ty1_int64 (rd1 (k := 1) rfl rfl)) ?_
  refine at_q rfl rfl (by decide) (qt_fieldAddr rfl rfl tyf_impl_Pt_0) ?_
  refine at_q rfl rfl (by decide) (qt_load1 rfl rfl ty1_int64 (rd1 (k := 0) rfl rfl)) ?_
  refine at_q rfl rfl (by decide) (qt_sub rfl rfl rfl (by omega) (by omega)) ?_
  refine at_q rfl rfl (by decide) (qt_mul rfl rfl rfl (by omega) (by omega)) ?_
  refine at_q rfl rfl (by decide) (qt_fieldAddr rfl rfl tyf_impl_Pt_1) ?_
  refine at_q rfl rfl (by decide) (qt_load1 rfl rfl ty1_int64 (rd1 (k := 2) rfl rfl)) ?_
  refine at_q rfl rfl (by decide) (qt_fieldAddr rfl rfl tyf_impl_Pt_1) ?_
  refine at_q rfl rfl (by decide) (qt_load1 rfl rfl ty1_int64 (rd1 (k := 0) rfl rfl)) ?_
  refine at_q rfl rfl (by decide) (qt_sub rfl rfl rfl (by omega) (by omega)) ?_
  refine at_q rfl rfl (by decide) (qt_fieldAddr rfl rfl tyf_impl_Pt_1) ?_
  refine at_q rfl rfl (by decide) (qt_load1 rfl rfl ty1_int64 (rd1 (k := 1) rfl rfl)) ?_
  refine at_q rfl rfl (by decide) (qt_fieldAddr rfl rfl tyf_impl_Pt_1) ?_
  refine at_q rfl rfl (by decide) (qt_load1 rfl rfl ty1_int64 (rd1 (k := 0) rfl rfl)) ?_
  refine at_q rfl rfl (by decide) (qt_sub rfl rfl rfl (by omega) (by omega)) ?_
  refine at_q rfl rfl (by decide) (qt_mul rfl rfl rfl (by omega) (by omega)) ?_
  refine at_q rfl rfl (by decide) (qt_add rfl rfl rfl (by omega) (by omega)) ?_
  refine at_q rfl rfl (by decide) (qt_assign rfl rfl) ?_
  refine at_end ?_
  refine at_seq ?_
  refine at_block ?_
  refine at_seq ?_
  refine at_region ?_
  refine at_q rfl rfl (by decide) (qt_move rfl rfl) ?_
  refine at_q rfl rfl (by decide) (qt_leq rfl rfl rfl) ?_
  refine at_q rfl rfl (by decide) (qt_assign rfl rfl) ?_
  refine at_end ?_
  refine at_cond rfl (fun c1 => ?_) (fun c1 => ?_)
  · try simp only [decide_eq_true_eq, decide_eq_false_iff_not, beq_iff_eq, beq_eq_false_iff_ne, Bool.not_eq_true', Bool.not_eq_false', Bool.not_true, Bool.not_false, Int.not_lt, Int.not_le, ne_eq, Nat.not_lt, Nat.not_le] at c1
    refine at_seq ?_
    refine at_region ?_
    refine at_q rfl rfl (by decide) (qt_loadS rfl rfl tys_impl_Pt rfl (rdAll (k := 0) rfl)) ?_
    refine at_q rfl rfl (by decide) (qt_loadS rfl rfl tys_impl_Pt rfl (rdAll (k := 2) rfl)) ?_
    refine at_q rfl rfl (by decide) (qt_call ok_impl_distSq rfl rfl (fun w h => distSq_p _ _ w (by assumption) (by assumption))) ?_
    refine at_q rfl rfl (by decide) (qt_move rfl rfl) ?_
    refine at_q rfl rfl (by decide) (qt_move rfl rfl) ?_
    refine at_q rfl rfl (by decide) (qt_mul rfl rfl rfl (by omega) (by omega)) ?_
    refine at_q rfl rfl (by decide) (qt_leq rfl rfl rfl) ?_
    refine at_q rfl rfl (by decide) (qt_assign rfl rfl) ?_
    refine at_end ?_
    refine at_retc ?_
    refine pass_ret ?_
    refine then_ret ?_
    refine at_ret1 rfl (.tmp rfl) ?_
    intro w' hs
    exact ⟨congrArg Ending.returned (congrArg Value.bool (by rw [nearI, if_pos (show alg a b p ≤ 0 from c1)])), hs.fin⟩
  · try simp only [decide_eq_true_eq, decide_eq_false_iff_not, beq_iff_eq, beq_eq_false_iff_ne, Bool.not_eq_true', Bool.not_eq_false', Bool.not_true, Bool.not_false, Int.not_lt, Int.not_le, ne_eq, Nat.not_lt, Nat.not_le] at c1
    refine at_seq ?_
    refine at_region ?_
    refine at_q rfl rfl (by decide) (qt_move rfl rfl) ?_
    refine at_q rfl rfl (by decide) (qt_move rfl rfl) ?_
    refine at_q rfl rfl (by decide) (qt_geq rfl rfl rfl) ?_
    refine at_q rfl rfl (by decide) (qt_assign rfl rfl) ?_
    refine at_end ?_
    refine at_cond rfl (fun c2 => ?_) (fun c2 => ?_)
    · try simp only [decide_eq_true_eq, decide_eq_false_iff_not, beq_iff_eq, beq_eq_false_iff_ne, Bool.not_eq_true', Bool.not_eq_false', Bool.not_true, Bool.not_false, Int.not_lt, Int.not_le, ne_eq, Nat.not_lt, Nat.not_le] at c2
      refine at_seq ?_
      refine at_region ?_
      refine at_q rfl rfl (by decide) (qt_loadS rfl rfl tys_impl_Pt rfl (rdAll (k := 1) rfl)) ?_
      refine at_q rfl rfl (by decide) (qt_loadS rfl rfl tys_impl_Pt rfl (rdAll (k := 2) rfl)) ?_
      refine at_q rfl rfl (by decide) (qt_call ok_impl_distSq rfl rfl (fun w h => distSq_p _ _ w (by assumption) (by assumption))) ?_
      refine at_q rfl rfl (by decide) (qt_move rfl rfl) ?_
      refine at_q rfl rfl (by decide) (qt_move rfl rfl) ?_
      refine at_q rfl rfl (by decide) (qt_mul rfl rfl rfl (by omega) (by omega)) ?_
      refine at_q rfl rfl (by decide) (qt_leq rfl rfl rfl) ?_
      refine at_q rfl rfl (by decide) (qt_assign rfl rfl) ?_
      refine at_end ?_
      refine at_retc ?_
      refine pass_ret ?_
      refine then_ret ?_
      refine at_ret1 rfl (.tmp rfl) ?_
      intro w' hs
      exact ⟨congrArg Ending.returned (congrArg Value.bool (by rw [nearI, if_neg (show ¬ alg a b p ≤ 0 from Int.not_le.2 c1), if_pos (show dsq a b ≤ alg a b p from c2)])), hs.fin⟩
    · try simp only [decide_eq_true_eq, decide_eq_false_iff_not, beq_iff_eq, beq_eq_false_iff_ne, Bool.not_eq_true', Bool.not_eq_false', Bool.not_true, Bool.not_false, Int.not_lt, Int.not_le, ne_eq, Nat.not_lt, Nat.not_le] at c2
      refine at_skip ?_
      refine norm_block ?_
      refine norm_then ?_
      refine at_seq ?_
      refine at_region ?_
      refine at_q rfl rfl (by decide) (qt_loadS rfl rfl tys_impl_Pt rfl (rdAll (k := 0) rfl)) ?_
      refine at_q rfl rfl (by decide) (qt_loadS rfl rfl tys_impl_Pt rfl (rdAll (k := 1) rfl)) ?_
      refine at_q rfl rfl (by decide) (qt_loadS rfl rfl tys_impl_Pt rfl (rdAll (k := 2) rfl)) ?_
      refine at_q rfl rfl (by decide) (qt_call ok_impl_turn rfl rfl (fun w h => turn_p _ _ _ w ha hb hp)) ?_
      refine at_q rfl rfl (by decide) (qt_assign rfl rfl) ?_
      refine at_end ?_
      refine at_seq ?_
      refine at_seq ?_
      refine at_region ?_
      refine at_q rfl rfl (by decide) (qt_move rfl rfl) ?_
      refine at_q rfl rfl (by decide) (qt_lss rfl rfl rfl) ?_
      refine at_end ?_
      refine at_cond rfl (fun c3 => ?_) (fun c3 => ?_)
      · try simp only [decide_eq_true_eq, decide_eq_false_iff_not, beq_iff_eq, beq_eq_false_iff_ne, Bool.not_eq_true', Bool.not_eq_false', Bool.not_true, Bool.not_false, Int.not_lt, Int.not_le, ne_eq, Nat.not_lt, Nat.not_le] at c3
        refine at_region ?_
        refine at_q rfl rfl (by decide) (qt_move rfl rfl) ?_
        refine at_q rfl rfl (by decide) (qt_neg rfl rfl (by omega) (by omega)) ?_
        refine at_q rfl rfl (by decide) (qt_assign rfl rfl) ?_
        refine at_end ?_
        refine at_seq ?_
        refine at_region ?_
        refine at_q rfl rfl (by decide) (qt_move rfl rfl) ?_
        refine at_q rfl rfl (by decide) (qt_move rfl rfl) ?_
        refine at_q rfl rfl (by decide) (qt_move rfl rfl) ?_
        refine at_q rfl rfl (by decide) (qt_move rfl rfl) ?_
        refine at_q rfl rfl (by decide) (qt_mul rfl rfl rfl (by omega) (by omega)) ?_
        refine at_q rfl rfl (by decide) (qt_move rfl rfl) ?_
        refine at_q rfl rfl (by decide) (qt_call ok_impl_productAtMost rfl rfl (fun w h => productAtMost_p _ _ _ _ (by omega) w)) ?_
        refine at_q rfl rfl (by decide) (qt_assign rfl rfl) ?_
        refine at_end ?_
        refine at_retc ?_
        refine at_ret1 rfl (.tmp rfl) ?_
        intro w' hs
        exact ⟨congrArg Ending.returned (congrArg Value.bool (by rw [nearI, if_neg (show ¬ alg a b p ≤ 0 from Int.not_le.2 c1), if_neg (show ¬ dsq a b ≤ alg a b p from Int.not_le.2 c2), Int.neg_mul_neg])), hs.fin⟩
      · try simp only [decide_eq_true_eq, decide_eq_false_iff_not, beq_iff_eq, beq_eq_false_iff_ne, Bool.not_eq_true', Bool.not_eq_false', Bool.not_true, Bool.not_false, Int.not_lt, Int.not_le, ne_eq, Nat.not_lt, Nat.not_le] at c3
        refine at_skip ?_
        refine norm_then ?_
        refine at_seq ?_
        refine at_region ?_
        refine at_q rfl rfl (by decide) (qt_move rfl rfl) ?_
        refine at_q rfl rfl (by decide) (qt_move rfl rfl) ?_
        refine at_q rfl rfl (by decide) (qt_move rfl rfl) ?_
        refine at_q rfl rfl (by decide) (qt_move rfl rfl) ?_
        refine at_q rfl rfl (by decide) (qt_mul rfl rfl rfl (by omega) (by omega)) ?_
        refine at_q rfl rfl (by decide) (qt_move rfl rfl) ?_
        refine at_q rfl rfl (by decide) (qt_call ok_impl_productAtMost rfl rfl (fun w h => productAtMost_p _ _ _ _ (by omega) w)) ?_
        refine at_q rfl rfl (by decide) (qt_assign rfl rfl) ?_
        refine at_end ?_
        refine at_retc ?_
        refine at_ret1 rfl (.tmp rfl) ?_
        intro w' hs
        exact ⟨congrArg Ending.returned (congrArg Value.bool (by rw [nearI, if_neg (show ¬ alg a b p ≤ 0 from Int.not_le.2 c1), if_neg (show ¬ dsq a b ≤ alg a b p from Int.not_le.2 c2)])), hs.fin⟩
theorem l03Near_p (a b p : Pn) (r : Int) (w : World) (ha : bd2 a) (hb : bd2 b) (hp : bd2 p) (hr : 0 ≤ r ∧ r ≤ 262144) : Calls Try.prog 127 #[pV a, pV b, pV p, .int .i64 r] w fun e w' => e = .returned (.bool (nearS a b p r)) ∧ Over w w' := by
  have hd := bd2_diff ha hb
  have he := bd2_diff ha hp
  have h1 := mulB he.1 hd.1
  have h2 := mulB he.2 hd.2
  have hrr := mulB (B := 262144) (x := r) (y := r) (by omega) (by omega)
  have hr0 := sq_nonneg r
  have ht := tn_bd ha hb hp
  have hs0 := dsq_bd ha hb
  refine walk_from (m := 76) (Try.func127) rfl rfl (Nat.le_of_ble_eq_true rfl) ?_
  refine at_seq ?_
  refine at_region ?_
  refine at_op rfl ?_
  refine op_box rfl rfl (rfl) rfl (by decide) (fun b1 => ?_)
  refine at_rsE (by simp only [List.nil_append, List.cons_append, List.set_cons_zero, List.set_cons_succ, Value.cells, List.toList_toArray]; rfl) ?_
  refine at_op rfl ?_
  refine op_box rfl rfl (rfl) rfl (by decide) (fun b2 => ?_)
  refine at_rsE (by simp only [List.nil_append, List.cons_append, List.set_cons_zero, List.set_cons_succ, Value.cells, List.toList_toArray]; rfl) ?_
  refine at_op rfl ?_
  refine op_box rfl rfl (rfl) rfl (by decide) (fun b3 => ?_)
  refine at_rsE (by simp only [List.nil_append, List.cons_append, List.set_cons_zero, List.set_cons_succ, Value.cells, List.toList_toArray]; rfl) ?_
  refine at_q rfl rfl (by decide) (qt_assign rfl rfl) ?_
  refine at_end ?_
  refine at_seq ?_
  refine at_seq ?_
  refine at_region ?_
  refine at_q rfl rfl (by decide) (qt_loadS rfl rfl tys_impl_Pt rfl (rdAll (k := 0) rfl)) ?_
  refine at_q rfl rfl (by decide) (qt_loadS rfl rfl tys_impl_Pt rfl (rdAll (k := 2) rfl)) ?_
  refine at_q rfl rfl (by decide) (qt_call ok_spec_l03Sq rfl rfl (fun w h => l03Sq_p _ _ w (by assumption) (by assumption))) ?_
  refine at_q rfl rfl (by decide) (qt_move rfl rfl) ?_
  refine at_q rfl rfl (by decide) (qt_move rfl rfl) ?_
  refine at_q rfl rfl (by decide) (qt_mul rfl rfl rfl (by omega) (by omega)) ?_
  refine at_q rfl rfl (by decide) (qt_leq rfl rfl rfl) ?_
  refine at_q rfl rfl (by decide) (qt_move rfl rfl) ?_
  refine at_bsplit 18 rfl (fun g1 => ?_) (fun g1 => ?_)
  · try simp only [decide_eq_true_eq, decide_eq_false_iff_not, beq_iff_eq, beq_eq_false_iff_ne, Bool.not_eq_true', Bool.not_eq_false', Bool.not_true, Bool.not_false, Int.not_lt, Int.not_le, ne_eq, Nat.not_lt, Nat.not_le] at g1
    refine at_off rfl rfl rfl rfl (by decide) rfl (by decide) ?_
    refine at_off rfl rfl rfl rfl (by decide) rfl (by decide) ?_
    refine at_off rfl rfl rfl rfl (by decide) rfl (by decide) ?_
    refine at_off rfl rfl rfl rfl (by decide) rfl (by decide) ?_
    refine at_off rfl rfl rfl rfl (by decide) rfl (by decide) ?_
    refine at_off rfl rfl rfl rfl (by decide) rfl (by decide) ?_
    refine at_off rfl rfl rfl rfl (by decide) rfl (by decide) ?_
    refine at_q rfl rfl (by decide) (qt_pickT rfl rfl rfl) ?_
    refine at_end ?_
    refine at_yes rfl rfl ?_
    refine at_seq ?_
    refine at_region ?_
    refine at_q rfl rfl (by decide) (qt_assign rfl rfl) ?_
    refine at_end ?_
    refine at_retc ?_
    refine then_ret ?_
    refine at_ret1 rfl (.tmp rfl) ?_
    intro w' hs
    exact ⟨congrArg Ending.returned (congrArg Value.bool (by unfold nearS; (repeat' split) <;> first | rfl | (exfalso; (try simp only [alg] at *); omega) | simp [Int.neg_mul_neg])), hs.fin⟩
  · try simp only [decide_eq_true_eq, decide_eq_false_iff_not, beq_iff_eq, beq_eq_false_iff_ne, Bool.not_eq_true', Bool.not_eq_false', Bool.not_true, Bool.not_false, Int.not_lt, Int.not_le, ne_eq, Nat.not_lt, Nat.not_le] at g1
    refine at_on rfl rfl rfl rfl ?_
    refine op_q rfl (by decide) (qt_loadS rfl rfl tys_impl_Pt rfl (rdAll (k := 1) rfl)) ?_
    refine at_on rfl rfl rfl rfl ?_
    refine op_q rfl (by decide) (qt_loadS rfl rfl tys_impl_Pt rfl (rdAll (k := 2) rfl)) ?_
    refine at_on rfl rfl rfl rfl ?_
    refine op_q rfl (by decide) (qt_call ok_spec_l03Sq rfl rfl (fun w h => l03Sq_p _ _ w (by assumption) (by assumption))) ?_
    refine at_on rfl rfl rfl rfl ?_
    refine op_q rfl (by decide) (qt_move rfl rfl) ?_
    refine at_on rfl rfl rfl rfl ?_
    refine op_q rfl (by decide) (qt_move rfl rfl) ?_
    refine at_on rfl rfl rfl rfl ?_
    refine op_q rfl (by decide) (qt_mul rfl rfl rfl (by omega) (by omega)) ?_
    refine at_on rfl rfl rfl rfl ?_
    refine op_q rfl (by decide) (qt_leq rfl rfl rfl) ?_
    refine at_q rfl rfl (by decide) (qt_pickF rfl rfl rfl) ?_
    refine at_end ?_
    refine at_cond rfl (fun c1 => ?_) (fun c1 => ?_)
    · try simp only [decide_eq_true_eq, decide_eq_false_iff_not, beq_iff_eq, beq_eq_false_iff_ne, Bool.not_eq_true', Bool.not_eq_false', Bool.not_true, Bool.not_false, Int.not_lt, Int.not_le, ne_eq, Nat.not_lt, Nat.not_le] at c1
      refine at_seq ?_
      refine at_region ?_
      refine at_q rfl rfl (by decide) (qt_assign rfl rfl) ?_
      refine at_end ?_
      refine at_retc ?_
      refine then_ret ?_
      refine at_ret1 rfl (.tmp rfl) ?_
      intro w' hs
      exact ⟨congrArg Ending.returned (congrArg Value.bool (by unfold nearS; (repeat' split) <;> first | rfl | (exfalso; (try simp only [alg] at *); omega) | simp [Int.neg_mul_neg])), hs.fin⟩
    · try simp only [decide_eq_true_eq, decide_eq_false_iff_not, beq_iff_eq, beq_eq_false_iff_ne, Bool.not_eq_true', Bool.not_eq_false', Bool.not_true, Bool.not_false, Int.not_lt, Int.not_le, ne_eq, Nat.not_lt, Nat.not_le] at c1
      refine at_skip ?_
      refine norm_then ?_
      refine at_seq ?_
      refine at_region ?_
      refine at_q rfl rfl (by decide) (qt_fieldAddr rfl rfl tyf_impl_Pt_0) ?_
      refine at_q rfl rfl (by decide) (qt_load1 rfl rfl ty1_int64 (rd1 (k := 2) rfl rfl)) ?_
      refine at_q rfl rfl (by decide) (qt_fieldAddr rfl rfl tyf_impl_Pt_0) ?_
      refine at_q rfl rfl (by decide) (qt_load1 rfl rfl ty1_int64 (rd1 (k := 0) rfl rfl)) ?_
      refine at_q rfl rfl (by decide) (qt_sub rfl rfl rfl (by omega) (by omega)) ?_
      refine at_q rfl rfl (by decide) (qt_fieldAddr rfl rfl tyf_impl_Pt_0) ?_
      refine at_q rfl rfl (by decide) (qt_load1 rfl rfl ty1_int64 (rd1 (k := 1) rfl rfl)) ?_
      refine at_q rfl rfl (by decide) (qt_fieldAddr rfl rfl tyf_impl_Pt_0) ?_
      refine at_q rfl rfl (by decide) (qt_load1 rfl rfl ty1_int64 (rd1 (k := 0) rfl rfl)) ?_
      refine at_q rfl rfl (by decide) (qt_sub rfl rfl rfl (by omega) (by omega)) ?_
      refine at_q rfl rfl (by decide) (qt_mul rfl rfl rfl (by omega) (by omega)) ?_
      refine at_q rfl rfl (by decide) (qt_fieldAddr rfl rfl tyf_impl_Pt_1) ?_
      refine at_q rfl rfl (by decide) (qt_load1 rfl rfl ty1_int64 (rd1 (k := 2) rfl rfl)) ?_
      refine at_q rfl rfl (by decide) (qt_fieldAddr rfl rfl tyf_impl_Pt_1) ?_
      refine at_q rfl rfl (by decide) (qt_load1 rfl rfl ty1_int64 (rd1 (k := 0) rfl rfl)) ?_
      refine at_q rfl rfl (by decide) (qt_sub rfl rfl rfl (by omega) (by omega)) ?_
      refine at_q rfl rfl (by decide) (qt_fieldAddr rfl rfl tyf_impl_Pt_1) ?_
      refine at_q rfl rfl (by decide) (qt_load1 rfl rfl ty1_int64 (rd1 (k := 1) rfl rfl)) ?_
      refine at_q rfl rfl (by decide) (qt_fieldAddr rfl rfl tyf_impl_Pt_1) ?_
      refine at_q rfl rfl (by decide) (qt_load1 rfl rfl ty1_int64 (rd1 (k := 0) rfl rfl)) ?_
      refine at_q rfl rfl (by decide) (qt_sub rfl rfl rfl (by omega) (by omega)) ?_
      refine at_q rfl rfl (by decide) (qt_mul rfl rfl rfl (by omega) (by omega)) ?_
      refine at_q rfl rfl (by decide) (qt_add rfl rfl rfl (by omega) (by omega)) ?_
      refine at_q rfl rfl (by decide) (qt_assign rfl rfl) ?_
      refine at_end ?_
      refine at_seq ?_
      refine at_seq ?_
      refine at_region ?_
      refine at_q rfl rfl (by decide) (qt_move rfl rfl) ?_
      refine at_q rfl rfl (by decide) (qt_leq rfl rfl rfl) ?_
      refine at_q rfl rfl (by decide) (qt_move rfl rfl) ?_
      refine at_bsplit 52 rfl (fun g2 => ?_) (fun g2 => ?_)
      · try simp only [decide_eq_true_eq, decide_eq_false_iff_not, beq_iff_eq, beq_eq_false_iff_ne, Bool.not_eq_true', Bool.not_eq_false', Bool.not_true, Bool.not_false, Int.not_lt, Int.not_le, ne_eq, Nat.not_lt, Nat.not_le] at g2
        refine at_off rfl rfl rfl rfl (by decide) rfl (by decide) ?_
        refine at_off rfl rfl rfl rfl (by decide) rfl (by decide) ?_
        refine at_off rfl rfl rfl rfl (by decide) rfl (by decide) ?_
        refine at_off rfl rfl rfl rfl (by decide) rfl (by decide) ?_
        refine at_off rfl rfl rfl rfl (by decide) rfl (by decide) ?_
        refine at_q rfl rfl (by decide) (qt_pickT rfl rfl rfl) ?_
        refine at_end ?_
        refine at_yes rfl rfl ?_
        refine at_seq ?_
        refine at_region ?_
        refine at_q rfl rfl (by decide) (qt_assign rfl rfl) ?_
        refine at_end ?_
        refine at_retc ?_
        refine then_ret ?_
        refine at_ret1 rfl (.tmp rfl) ?_
        intro w' hs
        exact ⟨congrArg Ending.returned (congrArg Value.bool (by unfold nearS; (repeat' split) <;> first | rfl | (exfalso; (try simp only [alg] at *); omega) | simp [Int.neg_mul_neg])), hs.fin⟩
      · try simp only [decide_eq_true_eq, decide_eq_false_iff_not, beq_iff_eq, beq_eq_false_iff_ne, Bool.not_eq_true', Bool.not_eq_false', Bool.not_true, Bool.not_false, Int.not_lt, Int.not_le, ne_eq, Nat.not_lt, Nat.not_le] at g2
        refine at_on rfl rfl rfl rfl ?_
        refine op_q rfl (by decide) (qt_move rfl rfl) ?_
        refine at_on rfl rfl rfl rfl ?_
        refine op_q rfl (by decide) (qt_loadS rfl rfl tys_impl_Pt rfl (rdAll (k := 0) rfl)) ?_
        refine at_on rfl rfl rfl rfl ?_
        refine op_q rfl (by decide) (qt_loadS rfl rfl tys_impl_Pt rfl (rdAll (k := 1) rfl)) ?_
        refine at_on rfl rfl rfl rfl ?_
        refine op_q rfl (by decide) (qt_call ok_spec_l03Sq rfl rfl (fun w h => l03Sq_p _ _ w (by assumption) (by assumption))) ?_
        refine at_on rfl rfl rfl rfl ?_
        refine op_q rfl (by decide) (qt_geq rfl rfl rfl) ?_
        refine at_q rfl rfl (by decide) (qt_pickF rfl rfl rfl) ?_
        refine at_end ?_
        refine at_cond rfl (fun c2 => ?_) (fun c2 => ?_)
        · try simp only [decide_eq_true_eq, decide_eq_false_iff_not, beq_iff_eq, beq_eq_false_iff_ne, Bool.not_eq_true', Bool.not_eq_false', Bool.not_true, Bool.not_false, Int.not_lt, Int.not_le, ne_eq, Nat.not_lt, Nat.not_le] at c2
          refine at_seq ?_
          refine at_region ?_
          refine at_q rfl rfl (by decide) (qt_assign rfl rfl) ?_
          refine at_end ?_
          refine at_retc ?_
          refine then_ret ?_
          refine at_ret1 rfl (.tmp rfl) ?_
          intro w' hs
          exact ⟨congrArg Ending.returned (congrArg Value.bool (by unfold nearS; (repeat' split) <;> first | rfl | (exfalso; (try simp only [alg] at *); omega) | simp [Int.neg_mul_neg])), hs.fin⟩
        · try simp only [decide_eq_true_eq, decide_eq_false_iff_not, beq_iff_eq, beq_eq_false_iff_ne, Bool.not_eq_true', Bool.not_eq_false', Bool.not_true, Bool.not_false, Int.not_lt, Int.not_le, ne_eq, Nat.not_lt, Nat.not_le] at c2
          refine at_skip ?_
          refine norm_then ?_
          refine at_seq ?_
          refine at_region ?_
          refine at_q rfl rfl (by decide) (qt_loadS rfl rfl tys_impl_Pt rfl (rdAll (k := 0) rfl)) ?_
          refine at_q rfl rfl (by decide) (qt_loadS rfl rfl tys_impl_Pt rfl (rdAll (k := 1) rfl)) ?_
          refine at_q rfl rfl (by decide) (qt_loadS rfl rfl tys_impl_Pt rfl (rdAll (k := 2) rfl)) ?_
          refine at_q rfl rfl (by decide) (qt_call ok_spec_l03Turn rfl rfl (fun w h => l03Turn_p _ _ _ w ha hb hp)) ?_
          refine at_q rfl rfl (by decide) (qt_assign rfl rfl) ?_
          refine at_end ?_
          refine at_seq ?_
          refine at_seq ?_
          refine at_region ?_
          refine at_q rfl rfl (by decide) (qt_move rfl rfl) ?_
          refine at_q rfl rfl (by decide) (qt_lss rfl rfl rfl) ?_
          refine at_end ?_
          refine at_cond rfl (fun c3 => ?_) (fun c3 => ?_)
          · try simp only [decide_eq_true_eq, decide_eq_false_iff_not, beq_iff_eq, beq_eq_false_iff_ne, Bool.not_eq_true', Bool.not_eq_false', Bool.not_true, Bool.not_false, Int.not_lt, Int.not_le, ne_eq, Nat.not_lt, Nat.not_le] at c3
            refine at_region ?_
            refine at_q rfl rfl (by decide) (qt_move rfl rfl) ?_
            refine at_q rfl rfl (by decide) (qt_neg rfl rfl (by omega) (by omega)) ?_
            refine at_q rfl rfl (by decide) (qt_assign rfl rfl) ?_
            refine at_end ?_
            refine at_seq ?_
            refine at_region ?_
            refine at_q rfl rfl (by decide) (qt_move rfl rfl) ?_
            refine at_q rfl rfl (by decide) (qt_move rfl rfl) ?_
            refine at_q rfl rfl (by decide) (qt_move rfl rfl) ?_
            refine at_q rfl rfl (by decide) (qt_move rfl rfl) ?_
            refine at_q rfl rfl (by decide) (qt_mul rfl rfl rfl (by omega) (by omega)) ?_
            refine at_q rfl rfl (by decide) (qt_loadS rfl rfl tys_impl_Pt rfl (rdAll (k := 0) rfl)) ?_
            refine at_q rfl rfl (by decide) (qt_loadS rfl rfl tys_impl_Pt rfl (rdAll (k := 1) rfl)) ?_
            refine at_q rfl rfl (by decide) (qt_call ok_spec_l03Sq rfl rfl (fun w h => l03Sq_p _ _ w (by assumption) (by assumption))) ?_
            refine at_q rfl rfl (by decide) (qt_call ok_spec_l03Less rfl rfl (fun w h => l03Less_p _ _ _ _ (by omega) w)) ?_
            refine at_q rfl rfl (by decide) (qt_assign rfl rfl) ?_
            refine at_end ?_
            refine at_retc ?_
            refine at_ret1 rfl (.tmp rfl) ?_
            intro w' hs
            exact ⟨congrArg Ending.returned (congrArg Value.bool (by unfold nearS; (repeat' split) <;> first | rfl | (exfalso; (try simp only [alg] at *); omega) | simp [Int.neg_mul_neg])), hs.fin⟩
          · try simp only [decide_eq_true_eq, decide_eq_false_iff_not, beq_iff_eq, beq_eq_false_iff_ne, Bool.not_eq_true', Bool.not_eq_false', Bool.not_true, Bool.not_false, Int.not_lt, Int.not_le, ne_eq, Nat.not_lt, Nat.not_le] at c3
            refine at_skip ?_
            refine norm_then ?_
            refine at_seq ?_
            refine at_region ?_
            refine at_q rfl rfl (by decide) (qt_move rfl rfl) ?_
            refine at_q rfl rfl (by decide) (qt_move rfl rfl) ?_
            refine at_q rfl rfl (by decide) (qt_move rfl rfl) ?_
            refine at_q rfl rfl (by decide) (qt_move rfl rfl) ?_
            refine at_q rfl rfl (by decide) (qt_mul rfl rfl rfl (by omega) (by omega)) ?_
            refine at_q rfl rfl (by decide) (qt_loadS rfl rfl tys_impl_Pt rfl (rdAll (k := 0) rfl)) ?_
            refine at_q rfl rfl (by decide) (qt_loadS rfl rfl tys_impl_Pt rfl (rdAll (k := 1) rfl)) ?_
            refine at_q rfl rfl (by decide) (qt_call ok_spec_l03Sq rfl rfl (fun w h => l03Sq_p _ _ w (by assumption) (by assumption))) ?_
            refine at_q rfl rfl (by decide) (qt_call ok_spec_l03Less rfl rfl (fun w h => l03Less_p _ _ _ _ (by omega) w)) ?_
            refine at_q rfl rfl (by decide) (qt_assign rfl rfl) ?_
            refine at_end ?_
            refine at_retc ?_
            refine at_ret1 rfl (.tmp rfl) ?_
            intro w' hs
            exact ⟨congrArg Ending.returned (congrArg Value.bool (by unfold nearS; (repeat' split) <;> first | rfl | (exfalso; (try simp only [alg] at *); omega) | simp [Int.neg_mul_neg])), hs.fin⟩

/-! ### Which points stay -/
/-- How far a point of a path is off. -/
def offP (a b p : Pn) : Int := if a = b then dsq a p else max (tn a b p) (-tn a b p)
/-- The farthest of the first k points behind the first one that are not near: its index, how far. -/
def scan (a b : Pn) (r : Int) (xs : List (Int × Int)) : Nat → Int × Int
  | 0 => (-1, -1)
  | k + 1 => if nearS a b (pt xs (k + 1)) r = true then scan a b r xs k else if (scan a b r xs k).2 < offP a b (pt xs (k + 1)) then (((k + 1 : Nat) : Int), offP a b (pt xs (k + 1))) else scan a b r xs k
theorem scan_rng (a b : Pn) (r : Int) (xs : List (Int × Int)) : ∀ k, (scan a b r xs k).1 = -1 ∨ 1 ≤ (scan a b r xs k).1 ∧ (scan a b r xs k).1 ≤ (k : Int)
  | 0 => .inl rfl
  | k + 1 => by
    have ih := scan_rng a b r xs k
    unfold scan
    split
    · omega
    · split
      · right; simp only; omega
      · omega
theorem scan_near {a b : Pn} {r : Int} {xs : List (Int × Int)} {k : Nat} (h : nearS a b (pt xs (k + 1)) r = true) : scan a b r xs (k + 1) = scan a b r xs k := by rw [scan, if_pos h]
theorem scan_more {a b : Pn} {r : Int} {xs : List (Int × Int)} {k : Nat} (h : ¬ nearS a b (pt xs (k + 1)) r = true) (h2 : (scan a b r xs k).2 < offP a b (pt xs (k + 1))) : scan a b r xs (k + 1) = (((k + 1 : Nat) : Int), offP a b (pt xs (k + 1))) := by rw [scan, if_neg h, if_pos h2]
theorem scan_less {a b : Pn} {r : Int} {xs : List (Int × Int)} {k : Nat} (h : ¬ nearS a b (pt xs (k + 1)) r = true) (h2 : ¬ (scan a b r xs k).2 < offP a b (pt xs (k + 1))) : scan a b r xs (k + 1) = scan a b r xs k := by rw [scan, if_neg h, if_neg h2]
def far (r : Int) (xs : List (Int × Int)) : Int := (scan (pt xs 0) (pt xs (xs.length - 1)) r xs (xs.length - 2)).1
/-- The points between the ends of a path that stay. -/
def thin (r : Int) (xs : List (Int × Int)) : List (Int × Int) :=
  if h : 1 ≤ (far r xs).toNat ∧ (far r xs).toNat + 1 < xs.length then
    thin r (xs.take ((far r xs).toNat + 1)) ++ pt xs (far r xs).toNat :: thin r (xs.drop (far r xs).toNat)
  else []
termination_by xs.length
decreasing_by
  · rw [List.length_take]; omega
  · rw [List.length_drop]; omega
theorem far_rng (r : Int) (xs : List (Int × Int)) : far r xs = -1 ∨ ∃ k : Nat, far r xs = (k : Int) ∧ 1 ≤ k ∧ k + 1 < xs.length := by
  have h := scan_rng (pt xs 0) (pt xs (xs.length - 1)) r xs (xs.length - 2)
  rcases h with h | ⟨h1, h2⟩
  · exact .inl h
  · right
    refine ⟨(far r xs).toNat, ?_, ?_, ?_⟩ <;> (unfold far; omega)
theorem thin_no {r : Int} {xs : List (Int × Int)} (h : far r xs = -1) : thin r xs = [] := by
  rw [thin, dif_neg]
  rw [h]
  exact fun hh => absurd hh.1 (by decide)
theorem thin_at {r : Int} {xs : List (Int × Int)} {k : Nat} (h : far r xs = (k : Int)) (h1 : 1 ≤ k) (h2 : k + 1 < xs.length) : thin r xs = thin r (xs.take (k + 1)) ++ pt xs k :: thin r (xs.drop k) := by
  have e : (far r xs).toNat = k := by rw [h]; rfl
  rw [thin, dif_pos (by rw [e]; exact ⟨h1, h2⟩), e]
theorem thin_len (r : Int) (n : Nat) : ∀ xs : List (Int × Int), xs.length ≤ n → (thin r xs).length ≤ xs.length - 2 := by
  induction n with
  | zero =>
    intro xs h
    rcases far_rng r xs with hf | ⟨k, hf, h1, h2⟩
    · rw [thin_no hf]; simp
    · omega
  | succ n ih =>
    intro xs h
    rcases far_rng r xs with hf | ⟨k, hf, h1, h2⟩
    · rw [thin_no hf]; simp
    · have i1 := ih (xs.take (k + 1)) (by rw [List.length_take]; omega)
      have i2 := ih (xs.drop k) (by rw [List.length_drop]; omega)
      rw [List.length_take] at i1
      rw [List.length_drop] at i2
      rw [thin_at hf h1 h2, List.length_append, List.length_cons]
      omega

/-! ### Pieces of a path -/
/-- Points that are valid, at most 402 of them. -/
def okPath (xs : List (Int × Int)) : Prop := xs.length ≤ 402 ∧ ∀ p ∈ xs, bd2 p
theorem okPath.at_ {xs : List (Int × Int)} (h : okPath xs) {k : Nat} (hk : k < xs.length) : bd2 (pt xs k) := by
  have := h.2 xs[k] (List.getElem_mem hk)
  rwa [at_p hk] at this
theorem okPath.take {xs : List (Int × Int)} (h : okPath xs) (k : Nat) : okPath (xs.take k) := ⟨by rw [List.length_take]; have := h.1; omega, fun p hp => h.2 p (List.mem_of_mem_take hp)⟩
theorem okPath.drop {xs : List (Int × Int)} (h : okPath xs) (k : Nat) : okPath (xs.drop k) := ⟨by rw [List.length_drop]; have := h.1; omega, fun p hp => h.2 p (List.mem_of_mem_drop hp)⟩
theorem px_take {xs : List (Int × Int)} {k j : Nat} (h : j < k) : px (xs.take k) j = px xs j ∧ py (xs.take k) j = py xs j := by
  simp [px, py, List.getD, List.getElem?_take, h]
theorem px_drop (xs : List (Int × Int)) (k j : Nat) : px (xs.drop k) j = px xs (k + j) ∧ py (xs.drop k) j = py xs (k + j) := by
  simp [px, py, List.getD, List.getElem?_drop]
theorem ptsTake {w : World} {A : Option Addr} {n k : Nat} {xs : List (Int × Int)} (h : Pts w A n xs) (hk : k ≤ n) : Pts w A k (xs.take k) := by
  have hl := h.1
  refine ⟨by rw [List.length_take]; omega, fun h0 => ?_⟩
  obtain ⟨b, o, e, hb, hc⟩ := h.2 (by omega)
  refine ⟨b, o, e, hb, fun j hj => ?_⟩
  rw [(px_take hj).1, (px_take hj).2]
  exact hc j (by omega)
theorem ptsDrop {w : World} {b o n k c : Nat} {xs : List (Int × Int)} (h : Pts w (some ⟨b, o, none⟩) n xs) (hk : k < n) (hc : n ≤ c) : Pts w (some ⟨b, offL o k c 2, none⟩) (n - k) (xs.drop k) := by
  have hl := h.1
  refine ⟨by rw [List.length_drop]; omega, fun h0 => ?_⟩
  obtain ⟨b', o', e, hb, hcc⟩ := h.2 (by omega)
  injection e with e
  injection e with e1 e2
  subst e1 e2
  refine ⟨b, offL o k c 2, rfl, hb, fun j hj => ?_⟩
  rw [(px_drop xs k j).1, (px_drop xs k j).2, offL, if_neg (by omega), show o + k * 2 + j * 2 = o + (k + j) * 2 by omega]
  exact hcc (k + j) (by omega)
theorem rowUp {w : World} {B N T s n : Nat} {v : Value} {xs : List Value} (h : w.ownsRow B T s v n xs) (hN : ∀ b, v.ownBlock = some b → N ≤ b) : w.ownsRow N T s v n xs := by
  refine ⟨h.1, ?_⟩
  rcases h.2 with e | ⟨g, cap, cur, rfl, hb, rest⟩
  · exact .inl e
  · exact .inr ⟨g, cap, cur, rfl, hN g rfl, rest⟩
theorem offP_ne {a b : Pn} (p : Pn) (h : ((a.1 == b.1) && (a.2 == b.2)) = false) : offP a b p = max (tn a b p) (-tn a b p) := by
  rw [offP, if_neg]
  rintro rfl
  simp at h
theorem offP_eq {a b : Pn} (p : Pn) (h : ((a.1 == b.1) && (a.2 == b.2)) = true) : offP a b p = dsq a p := by
  rw [offP, if_pos]
  simp only [Bool.and_eq_true, beq_iff_eq] at h
  exact Prod.ext h.1 h.2
theorem far_at {r : Int} {xs : List (Int × Int)} {n k : Nat} (hl : xs.length = n) (hk : k + 2 = n) : far r xs = (scan (pt xs 0) (pt xs (n - 1)) r xs k).1 := by
  subst hl
  rw [far, show xs.length - 2 = k by omega]
theorem far_none {r : Int} {xs : List (Int × Int)} (h : far r xs < 0) : thin r xs = [] := by
  rcases far_rng r xs with hf | ⟨k, hf, _⟩
  · exact thin_no hf
  · omega
theorem far_some {r : Int} {xs : List (Int × Int)} (h : 0 ≤ far r xs) : ∃ k : Nat, far r xs = (k : Int) ∧ 1 ≤ k ∧ k + 1 < xs.length := by
  rcases far_rng r xs with hf | h
  · omega
  · exact h
theorem thin_cells {r : Int} {xs : List (Int × Int)} {k : Nat} (h : far r xs = (k : Int)) (h1 : 1 ≤ k) (h2 : k + 1 < xs.length) :
    (thin r xs).length = (thin r (xs.take (k + 1))).length + 1 + (thin r (xs.drop k)).length ∧ (thin r xs).flatMap ptCells = (thin r (xs.take (k + 1))).flatMap ptCells ++ [.int .i64 (px xs k), .int .i64 (py xs k)] ++ (thin r (xs.drop k)).flatMap ptCells := by
  rw [thin_at h h1 h2]
  refine ⟨by rw [List.length_append, List.length_cons]; omega, ?_⟩
  rw [List.flatMap_append, List.flatMap_cons, List.append_assoc]
  rfl
theorem thinPath_step {b o n c : Nat} {xs : List (Int × Int)} {r : Int} (w : World) (h : Pts w (some ⟨b, o, none⟩) n xs) (hx : okPath xs) (h2 : 2 ≤ n) (hc : n ≤ c) (hr : 0 ≤ r ∧ r ≤ 262144)
    (ih : ∀ (b o n' c : Nat) (xs : List (Int × Int)) (w : World), n' < n → Pts w (some ⟨b, o, none⟩) n' xs → okPath xs → 2 ≤ n' → n' ≤ c → Calls Try.prog 82 #[.slice (some ⟨b, o, none⟩) n' c, .int .i64 r] w fun e w' => ∃ v, e = .returned v ∧ w'.ownsRow w.heap.size 24 2 v (thin r xs).length ((thin r xs).flatMap ptCells) ∧ Over w w') :
    Calls Try.prog 82 #[.slice (some ⟨b, o, none⟩) n c, .int .i64 r] w fun e w' => ∃ v, e = .returned v ∧ w'.ownsRow w.heap.size 24 2 v (thin r xs).length ((thin r xs).flatMap ptCells) ∧ Over w w' := by
  have hl := h.1
  have hn := hx.1
  refine walk_from (m := 82) (Try.func82) rfl rfl (Nat.le_of_ble_eq_true rfl) ?_
  refine at_seq ?_
  refine at_region ?_
  refine at_q rfl rfl (by decide) (qt_assign rfl rfl) ?_
  refine at_end ?_
  refine at_seq ?_
  refine dg_start mixed rfl ?_
  refine dg_phase 13 ?_
  refine dg_q (i := 0) rfl (by kernel_rfl) (by kernel_rfl) (by kernel_rfl) [] (by kernel_rfl) (fun _ _ _ h => h) rfl rfl (by decide) (fun _ h => h.upto trivial) (qt_move rfl rfl) ?_
  refine dg_q (i := 1) rfl (by kernel_rfl) (by kernel_rfl) (by kernel_rfl) [] (by kernel_rfl) (fun _ _ _ h => h) rfl rfl (by decide) (fun _ h => h.upto trivial) (qt_index (j := 0) rfl rfl rfl tyl_sl_impl_Pt (by omega)) ?_
  refine dg_q (i := 2) rfl (by kernel_rfl) (by kernel_rfl) (by kernel_rfl) [] (by kernel_rfl) (fun _ _ _ h => h) rfl rfl (by decide) (fun _ h => h.upto trivial) (qt_loadS rfl rfl tys_impl_Pt rfl (rdPts h (by omega))) ?_
  refine dg_q (i := 3) rfl (by kernel_rfl) (by kernel_rfl) (by kernel_rfl) [] (by kernel_rfl) (fun _ _ _ h => h) rfl rfl (by decide) (fun _ h => h.upto trivial) (qt_move rfl rfl) ?_
  refine dg_q (i := 4) rfl (by kernel_rfl) (by kernel_rfl) (by kernel_rfl) [] (by kernel_rfl) (fun _ _ _ h => h) rfl rfl (by decide) (fun _ h => h.upto trivial) (qt_move rfl rfl) ?_
  refine dg_q (i := 5) rfl (by kernel_rfl) (by kernel_rfl) (by kernel_rfl) [] (by kernel_rfl) (fun _ _ _ h => h) rfl rfl (by decide) (fun _ h => h.upto trivial) (qt_len rfl rfl tyl_sl_impl_Pt) ?_
  refine dg_q (i := 6) rfl (by kernel_rfl) (by kernel_rfl) (by kernel_rfl) [] (by kernel_rfl) (fun _ _ _ h => h) rfl rfl (by decide) (fun _ h => h.upto trivial) ((qt_sub rfl rfl rfl (by omega) (by omega)).as (congrArg _ (show ((n : Int) - 1) = ((n - 1 : Nat) : Int) by omega))) ?_
  refine dg_q (i := 7) rfl (by kernel_rfl) (by kernel_rfl) (by kernel_rfl) [] (by kernel_rfl) (fun _ _ _ h => h) rfl rfl (by decide) (fun _ h => h.upto trivial) (qt_index rfl rfl rfl tyl_sl_impl_Pt (by omega)) ?_
  refine dg_q (i := 8) rfl (by kernel_rfl) (by kernel_rfl) (by kernel_rfl) [] (by kernel_rfl) (fun _ _ _ h => h) rfl rfl (by decide) (fun _ h => h.upto trivial) (qt_loadS rfl rfl tys_impl_Pt rfl (rdPts h (by omega))) ?_
  refine dg_new2 (i := 9) (j := 10) rfl rfl (by decide) (by decide) (by decide) rfl rfl rfl rfl (by decide) (by decide) (by decide) rfl rfl tyz_impl_Pt tyz_impl_Pt (by kernel_rfl) (by kernel_rfl) (by kernel_rfl) (fun _ h => h.upto trivial) (fun b1 b2 => ?_)
  refine at_rsE (by simp only [List.nil_append, List.cons_append, List.set_cons_zero, List.set_cons_succ, Value.cells, List.toList_toArray]; rfl) ?_
  refine dg_one (i := 11) rfl (by decide) (by kernel_rfl) rfl ?_
  refine op_storeAll' (k := 0) rfl rfl rfl rfl (rfl) (by rfl) tyz_impl_Pt.szx rfl rfl rfl ?_
  refine at_rsE (by simp only [List.nil_append, List.cons_append, List.set_cons_zero, List.set_cons_succ, Value.cells, List.toList_toArray]; rfl) ?_
  refine dr_keep (fun _ h => h.upto trivial) ?_
  refine dg_one (i := 12) rfl (by decide) (by kernel_rfl) rfl ?_
  refine op_storeAll' (k := 1) rfl rfl rfl rfl (rfl) (by rfl) tyz_impl_Pt.szx rfl rfl rfl ?_
  refine at_rsE (by simp only [List.nil_append, List.cons_append, List.set_cons_zero, List.set_cons_succ, Value.cells, List.toList_toArray]; rfl) ?_
  refine dr_keep (fun _ h => h.upto trivial) ?_
  refine dg_done (by kernel_rfl) ?_
  refine norm_then ?_
  refine at_seq ?_
  refine at_region ?_
  refine at_q rfl rfl (by decide) (qt_assign rfl rfl) ?_
  refine at_q rfl rfl (by decide) (qt_assign rfl rfl) ?_
  refine at_end ?_
  refine at_seq ?_
  refine at_seq ?_
  refine at_region ?_
  refine at_q rfl rfl (by decide) (qt_assign rfl rfl) ?_
  refine at_end ?_
  refine at_block ?_
  refine at_loopk (X := Nat) (fun k => k + 2 ≤ n) (fun k => n - k) (fun k => [(7, .int .i64 (scan (pt xs 0) (pt xs (n - 1)) r xs k).1), (8, .int .i64 (scan (pt xs 0) (pt xs (n - 1)) r xs k).2), (9, .int .i64 ((k + 1 : Nat) : Int))]) (C := [(0, _), (1, _), (4, _), (5, _), (6, _)]) ⟨rfl, rfl, rfl, rfl, rfl, trivial⟩ 0 (h2) ⟨rfl, rfl, rfl, rfl, rfl, rfl, rfl, rfl, trivial⟩ ?_
  intro k hk L hL1
  refine at_envE (by simp only [List.nil_append, List.cons_append]; rfl) ?_
  refine at_seq ?_
  refine at_seq ?_
  refine at_region ?_
  refine at_q rfl rfl (by decide) (qt_move rfl rfl) ?_
  refine at_q rfl rfl (by decide) (qt_add rfl rfl rfl (by omega) (by omega)) ?_
  refine at_q rfl rfl (by decide) (qt_move rfl rfl) ?_
  refine at_q rfl rfl (by decide) (qt_len rfl rfl tyl_sl_impl_Pt) ?_
  refine at_q rfl rfl (by decide) (qt_lss rfl rfl rfl) ?_
  refine at_end ?_
  refine at_cond rfl (fun c1 => ?_) (fun c1 => ?_)
  · try simp only [decide_eq_true_eq, decide_eq_false_iff_not, beq_iff_eq, beq_eq_false_iff_ne, Bool.not_eq_true', Bool.not_eq_false', Bool.not_true, Bool.not_false, Int.not_lt, Int.not_le, ne_eq, Nat.not_lt, Nat.not_le] at c1
    have hlt : k + 1 < n := (by omega)
    have ha := hx.at_ (k := 0) (by omega)
    have hb := hx.at_ (k := n - 1) (by omega)
    have hp := hx.at_ (k := k + 1) (by omega)
    have hto := tn_bd ha hb hp
    refine at_skip ?_
    refine norm_then ?_
    refine at_seq ?_
    refine at_block ?_
    refine at_seq ?_
    refine at_seq ?_
    refine dg_start mixed rfl ?_
    refine dg_phase 8 ?_
    refine dg_q (i := 0) rfl (by kernel_rfl) (by kernel_rfl) (by kernel_rfl) [] (by kernel_rfl) (fun _ _ _ h => h) rfl rfl (by decide) (fun _ h => h.upto ⟨rfl, rfl, trivial⟩) (qt_loadS rfl rfl tys_impl_Pt rfl (rdAll (k := 0) rfl)) ?_
    refine dg_q (i := 1) rfl (by kernel_rfl) (by kernel_rfl) (by kernel_rfl) [] (by kernel_rfl) (fun _ _ _ h => h) rfl rfl (by decide) (fun _ h => h.upto ⟨rfl, rfl, trivial⟩) (qt_loadS rfl rfl tys_impl_Pt rfl (rdAll (k := 1) rfl)) ?_
    refine dg_q (i := 2) rfl (by kernel_rfl) (by kernel_rfl) (by kernel_rfl) [] (by kernel_rfl) (fun _ _ _ h => h) rfl rfl (by decide) (fun _ h => h.upto ⟨rfl, rfl, trivial⟩) (qt_move rfl rfl) ?_
    refine dg_q (i := 3) rfl (by kernel_rfl) (by kernel_rfl) (by kernel_rfl) [] (by kernel_rfl) (fun _ _ _ h => h) rfl rfl (by decide) (fun _ h => h.upto ⟨rfl, rfl, trivial⟩) (qt_move rfl rfl) ?_
    refine dg_q (i := 4) rfl (by kernel_rfl) (by kernel_rfl) (by kernel_rfl) [] (by kernel_rfl) (fun _ _ _ h => h) rfl rfl (by decide) (fun _ h => h.upto ⟨rfl, rfl, trivial⟩) (qt_index rfl rfl rfl tyl_sl_impl_Pt (by omega)) ?_
    refine dg_q (i := 5) rfl (by kernel_rfl) (by kernel_rfl) (by kernel_rfl) [] (by kernel_rfl) (fun _ _ _ h => h) rfl rfl (by decide) (fun _ h => h.upto ⟨rfl, rfl, trivial⟩) (qt_loadS rfl rfl tys_impl_Pt rfl (rdPts h (by omega))) ?_
    refine dg_q (i := 6) rfl (by kernel_rfl) (by kernel_rfl) (by kernel_rfl) [] (by kernel_rfl) (fun _ _ _ h => h) rfl rfl (by decide) (fun _ h => h.upto ⟨rfl, rfl, trivial⟩) (qt_move rfl rfl) ?_
    refine dg_q (i := 7) rfl (by kernel_rfl) (by kernel_rfl) (by kernel_rfl) [] (by kernel_rfl) (fun _ _ _ h => h) rfl rfl (by decide) (fun _ h => h.upto ⟨rfl, rfl, trivial⟩) (qt_call ok_impl_nearSegment rfl rfl (fun w _ => nearSegment_p (pt xs 0) (pt xs (n - 1)) (pt xs (k + 1)) r w ha hb hp hr)) ?_
    refine dg_done (by kernel_rfl) ?_
    refine norm_then ?_
    refine at_cond rfl (fun c2 => ?_) (fun c2 => ?_)
    · try simp only [decide_eq_true_eq, decide_eq_false_iff_not, beq_iff_eq, beq_eq_false_iff_ne, Bool.not_eq_true', Bool.not_eq_false', Bool.not_true, Bool.not_false, Int.not_lt, Int.not_le, ne_eq, Nat.not_lt, Nat.not_le] at c2
      refine at_exit ?_
      refine pass_then (fun h => by cases h) ?_
      refine pass_hit ?_
      refine norm_then ?_
      refine at_region ?_
      refine at_q rfl rfl (by decide) (qt_move rfl rfl) ?_
      refine at_q rfl rfl (by decide) (qt_add rfl rfl rfl (by omega) (by omega)) ?_
      refine at_q rfl rfl (by decide) (qt_assign rfl rfl) ?_
      refine at_end ?_
      exact at_againk hL1 (k + 1) (by omega) (by omega) ⟨vi (by rw [scan_near c2]), vi (by rw [scan_near c2]), vi (by omega), rfl, rfl, rfl, rfl, rfl, trivial⟩ (fun _ h => h.upto ⟨rfl, rfl, trivial⟩)
    · try simp only [decide_eq_true_eq, decide_eq_false_iff_not, beq_iff_eq, beq_eq_false_iff_ne, Bool.not_eq_true', Bool.not_eq_false', Bool.not_true, Bool.not_false, Int.not_lt, Int.not_le, ne_eq, Nat.not_lt, Nat.not_le] at c2
      refine at_skip ?_
      refine norm_then ?_
      refine at_seq ?_
      refine dg_start mixed rfl ?_
      refine dg_phase 7 ?_
      refine dg_q (i := 0) rfl (by kernel_rfl) (by kernel_rfl) (by kernel_rfl) [] (by kernel_rfl) (fun _ _ _ h => h) rfl rfl (by decide) (fun _ h => h.upto ⟨rfl, rfl, trivial⟩) (qt_loadS rfl rfl tys_impl_Pt rfl (rdAll (k := 0) rfl)) ?_
      refine dg_q (i := 1) rfl (by kernel_rfl) (by kernel_rfl) (by kernel_rfl) [] (by kernel_rfl) (fun _ _ _ h => h) rfl rfl (by decide) (fun _ h => h.upto ⟨rfl, rfl, trivial⟩) (qt_move rfl rfl) ?_
      refine dg_q (i := 2) rfl (by kernel_rfl) (by kernel_rfl) (by kernel_rfl) [] (by kernel_rfl) (fun _ _ _ h => h) rfl rfl (by decide) (fun _ h => h.upto ⟨rfl, rfl, trivial⟩) (qt_move rfl rfl) ?_
      refine dg_q (i := 3) rfl (by kernel_rfl) (by kernel_rfl) (by kernel_rfl) [] (by kernel_rfl) (fun _ _ _ h => h) rfl rfl (by decide) (fun _ h => h.upto ⟨rfl, rfl, trivial⟩) (qt_index rfl rfl rfl tyl_sl_impl_Pt (by omega)) ?_
      refine dg_q (i := 4) rfl (by kernel_rfl) (by kernel_rfl) (by kernel_rfl) [] (by kernel_rfl) (fun _ _ _ h => h) rfl rfl (by decide) (fun _ h => h.upto ⟨rfl, rfl, trivial⟩) (qt_loadS rfl rfl tys_impl_Pt rfl (rdPts h (by omega))) ?_
      refine dg_q (i := 5) rfl (by kernel_rfl) (by kernel_rfl) (by kernel_rfl) [] (by kernel_rfl) (fun _ _ _ h => h) rfl rfl (by decide) (fun _ h => h.upto ⟨rfl, rfl, trivial⟩) (qt_call ok_impl_distSq rfl rfl (fun w _ => distSq_p (pt xs 0) (pt xs (k + 1)) w ha hp)) ?_
      refine dg_q (i := 6) rfl (by kernel_rfl) (by kernel_rfl) (by kernel_rfl) [] (by kernel_rfl) (fun _ _ _ h => h) rfl rfl (by decide) (fun _ h => h.upto ⟨rfl, rfl, trivial⟩) (qt_assign rfl rfl) ?_
      refine dg_done (by kernel_rfl) ?_
      refine norm_then ?_
      refine at_seq ?_
      refine at_seq ?_
      refine at_region ?_
      refine at_q rfl rfl (by decide) (qt_loadS rfl rfl tys_impl_Pt rfl (rdAll (k := 0) rfl)) ?_
      refine at_q rfl rfl (by decide) (qt_loadS rfl rfl tys_impl_Pt rfl (rdAll (k := 1) rfl)) ?_
      refine at_q rfl rfl (by decide) (qt_neqS_impl_Pt rfl rfl rfl) ?_
      refine at_end ?_
      refine at_cond rfl (fun c3 => ?_) (fun c3 => ?_)
      · try simp only [decide_eq_true_eq, decide_eq_false_iff_not, beq_iff_eq, beq_eq_false_iff_ne, Bool.not_eq_true', Bool.not_eq_false', Bool.not_true, Bool.not_false, Int.not_lt, Int.not_le, ne_eq, Nat.not_lt, Nat.not_le] at c3
        have ho := offP_ne (a := pt xs 0) (b := pt xs (n - 1)) (pt xs (k + 1)) c3
        refine at_seq ?_
        refine dg_start mixed rfl ?_
        refine dg_phase 8 ?_
        refine dg_q (i := 0) rfl (by kernel_rfl) (by kernel_rfl) (by kernel_rfl) [] (by kernel_rfl) (fun _ _ _ h => h) rfl rfl (by decide) (fun _ h => h.upto ⟨rfl, rfl, trivial⟩) (qt_loadS rfl rfl tys_impl_Pt rfl (rdAll (k := 0) rfl)) ?_
        refine dg_q (i := 1) rfl (by kernel_rfl) (by kernel_rfl) (by kernel_rfl) [] (by kernel_rfl) (fun _ _ _ h => h) rfl rfl (by decide) (fun _ h => h.upto ⟨rfl, rfl, trivial⟩) (qt_loadS rfl rfl tys_impl_Pt rfl (rdAll (k := 1) rfl)) ?_
        refine dg_q (i := 2) rfl (by kernel_rfl) (by kernel_rfl) (by kernel_rfl) [] (by kernel_rfl) (fun _ _ _ h => h) rfl rfl (by decide) (fun _ h => h.upto ⟨rfl, rfl, trivial⟩) (qt_move rfl rfl) ?_
        refine dg_q (i := 3) rfl (by kernel_rfl) (by kernel_rfl) (by kernel_rfl) [] (by kernel_rfl) (fun _ _ _ h => h) rfl rfl (by decide) (fun _ h => h.upto ⟨rfl, rfl, trivial⟩) (qt_move rfl rfl) ?_
        refine dg_q (i := 4) rfl (by kernel_rfl) (by kernel_rfl) (by kernel_rfl) [] (by kernel_rfl) (fun _ _ _ h => h) rfl rfl (by decide) (fun _ h => h.upto ⟨rfl, rfl, trivial⟩) (qt_index rfl rfl rfl tyl_sl_impl_Pt (by omega)) ?_
        refine dg_q (i := 5) rfl (by kernel_rfl) (by kernel_rfl) (by kernel_rfl) [] (by kernel_rfl) (fun _ _ _ h => h) rfl rfl (by decide) (fun _ h => h.upto ⟨rfl, rfl, trivial⟩) (qt_loadS rfl rfl tys_impl_Pt rfl (rdPts h (by omega))) ?_
        refine dg_q (i := 6) rfl (by kernel_rfl) (by kernel_rfl) (by kernel_rfl) [] (by kernel_rfl) (fun _ _ _ h => h) rfl rfl (by decide) (fun _ h => h.upto ⟨rfl, rfl, trivial⟩) (qt_call ok_impl_turn rfl rfl (fun w _ => turn_p (pt xs 0) (pt xs (n - 1)) (pt xs (k + 1)) w ha hb hp)) ?_
        refine dg_q (i := 7) rfl (by kernel_rfl) (by kernel_rfl) (by kernel_rfl) [] (by kernel_rfl) (fun _ _ _ h => h) rfl rfl (by decide) (fun _ h => h.upto ⟨rfl, rfl, trivial⟩) (qt_assign rfl rfl) ?_
        refine dg_done (by kernel_rfl) ?_
        refine norm_then ?_
        refine at_region ?_
        refine at_q rfl rfl (by decide) (qt_move rfl rfl) ?_
        refine at_q rfl rfl (by decide) (qt_move rfl rfl) ?_
        refine at_q rfl rfl (by decide) (qt_neg rfl rfl (by omega) (by omega)) ?_
        refine at_q rfl rfl (by decide) (qt_max rfl rfl rfl) ?_
        refine at_q rfl rfl (by decide) (qt_assign rfl rfl) ?_
        refine at_end ?_
        refine at_seq ?_
        refine at_region ?_
        refine at_q rfl rfl (by decide) (qt_move rfl rfl) ?_
        refine at_q rfl rfl (by decide) (qt_move rfl rfl) ?_
        refine at_q rfl rfl (by decide) (qt_gtr rfl rfl rfl) ?_
        refine at_end ?_
        refine at_cond rfl (fun c4 => ?_) (fun c4 => ?_)
        · try simp only [decide_eq_true_eq, decide_eq_false_iff_not, beq_iff_eq, beq_eq_false_iff_ne, Bool.not_eq_true', Bool.not_eq_false', Bool.not_true, Bool.not_false, Int.not_lt, Int.not_le, ne_eq, Nat.not_lt, Nat.not_le] at c4
          refine at_region ?_
          refine at_q rfl rfl (by decide) (qt_move rfl rfl) ?_
          refine at_q rfl rfl (by decide) (qt_move rfl rfl) ?_
          refine at_q rfl rfl (by decide) (qt_assign rfl rfl) ?_
          refine at_q rfl rfl (by decide) (qt_assign rfl rfl) ?_
          refine at_nil ?_
          refine norm_block ?_
          refine norm_then ?_
          refine at_region ?_
          refine at_q rfl rfl (by decide) (qt_move rfl rfl) ?_
          refine at_q rfl rfl (by decide) (qt_add rfl rfl rfl (by omega) (by omega)) ?_
          refine at_q rfl rfl (by decide) (qt_assign rfl rfl) ?_
          refine at_end ?_
          exact at_againk hL1 (k + 1) (by omega) (by omega) ⟨vi (by rw [scan_more (by simp [c2]) (by rw [ho]; exact c4)]), vi (by rw [scan_more (by simp [c2]) (by rw [ho]; exact c4), ho]), vi (by omega), rfl, rfl, rfl, rfl, rfl, trivial⟩ (fun _ h => h.upto ⟨rfl, rfl, trivial⟩)
        · try simp only [decide_eq_true_eq, decide_eq_false_iff_not, beq_iff_eq, beq_eq_false_iff_ne, Bool.not_eq_true', Bool.not_eq_false', Bool.not_true, Bool.not_false, Int.not_lt, Int.not_le, ne_eq, Nat.not_lt, Nat.not_le] at c4
          refine at_skip ?_
          refine norm_block ?_
          refine norm_then ?_
          refine at_region ?_
          refine at_q rfl rfl (by decide) (qt_move rfl rfl) ?_
          refine at_q rfl rfl (by decide) (qt_add rfl rfl rfl (by omega) (by omega)) ?_
          refine at_q rfl rfl (by decide) (qt_assign rfl rfl) ?_
          refine at_end ?_
          exact at_againk hL1 (k + 1) (by omega) (by omega) ⟨vi (by rw [scan_less (by simp [c2]) (by rw [ho]; exact Int.not_lt.2 c4)]), vi (by rw [scan_less (by simp [c2]) (by rw [ho]; exact Int.not_lt.2 c4)]), vi (by omega), rfl, rfl, rfl, rfl, rfl, trivial⟩ (fun _ h => h.upto ⟨rfl, rfl, trivial⟩)
      · try simp only [decide_eq_true_eq, decide_eq_false_iff_not, beq_iff_eq, beq_eq_false_iff_ne, Bool.not_eq_true', Bool.not_eq_false', Bool.not_true, Bool.not_false, Int.not_lt, Int.not_le, ne_eq, Nat.not_lt, Nat.not_le] at c3
        have ho := offP_eq (a := pt xs 0) (b := pt xs (n - 1)) (pt xs (k + 1)) c3
        refine at_skip ?_
        refine norm_then ?_
        refine at_seq ?_
        refine at_region ?_
        refine at_q rfl rfl (by decide) (qt_move rfl rfl) ?_
        refine at_q rfl rfl (by decide) (qt_move rfl rfl) ?_
        refine at_q rfl rfl (by decide) (qt_gtr rfl rfl rfl) ?_
        refine at_end ?_
        refine at_cond rfl (fun c5 => ?_) (fun c5 => ?_)
        · try simp only [decide_eq_true_eq, decide_eq_false_iff_not, beq_iff_eq, beq_eq_false_iff_ne, Bool.not_eq_true', Bool.not_eq_false', Bool.not_true, Bool.not_false, Int.not_lt, Int.not_le, ne_eq, Nat.not_lt, Nat.not_le] at c5
          refine at_region ?_
          refine at_q rfl rfl (by decide) (qt_move rfl rfl) ?_
          refine at_q rfl rfl (by decide) (qt_move rfl rfl) ?_
          refine at_q rfl rfl (by decide) (qt_assign rfl rfl) ?_
          refine at_q rfl rfl (by decide) (qt_assign rfl rfl) ?_
          refine at_nil ?_
          refine norm_block ?_
          refine norm_then ?_
          refine at_region ?_
          refine at_q rfl rfl (by decide) (qt_move rfl rfl) ?_
          refine at_q rfl rfl (by decide) (qt_add rfl rfl rfl (by omega) (by omega)) ?_
          refine at_q rfl rfl (by decide) (qt_assign rfl rfl) ?_
          refine at_end ?_
          exact at_againk hL1 (k + 1) (by omega) (by omega) ⟨vi (by rw [scan_more (by simp [c2]) (by rw [ho]; exact c5)]), vi (by rw [scan_more (by simp [c2]) (by rw [ho]; exact c5), ho]), vi (by omega), rfl, rfl, rfl, rfl, rfl, trivial⟩ (fun _ h => h.upto ⟨rfl, rfl, trivial⟩)
        · try simp only [decide_eq_true_eq, decide_eq_false_iff_not, beq_iff_eq, beq_eq_false_iff_ne, Bool.not_eq_true', Bool.not_eq_false', Bool.not_true, Bool.not_false, Int.not_lt, Int.not_le, ne_eq, Nat.not_lt, Nat.not_le] at c5
          refine at_skip ?_
          refine norm_block ?_
          refine norm_then ?_
          refine at_region ?_
          refine at_q rfl rfl (by decide) (qt_move rfl rfl) ?_
          refine at_q rfl rfl (by decide) (qt_add rfl rfl rfl (by omega) (by omega)) ?_
          refine at_q rfl rfl (by decide) (qt_assign rfl rfl) ?_
          refine at_end ?_
          exact at_againk hL1 (k + 1) (by omega) (by omega) ⟨vi (by rw [scan_less (by simp [c2]) (by rw [ho]; exact Int.not_lt.2 c5)]), vi (by rw [scan_less (by simp [c2]) (by rw [ho]; exact Int.not_lt.2 c5)]), vi (by omega), rfl, rfl, rfl, rfl, rfl, trivial⟩ (fun _ h => h.upto ⟨rfl, rfl, trivial⟩)
  · try simp only [decide_eq_true_eq, decide_eq_false_iff_not, beq_iff_eq, beq_eq_false_iff_ne, Bool.not_eq_true', Bool.not_eq_false', Bool.not_true, Bool.not_false, Int.not_lt, Int.not_le, ne_eq, Nat.not_lt, Nat.not_le] at c1
    have hfar := far_at (r := r) hl (show k + 2 = n by omega)
    refine at_exit ?_
    refine pass_then (fun h => by cases h) ?_
    refine pass_then (fun h => by cases h) ?_
    refine pass_hit ?_
    refine norm_then ?_
    refine at_seq ?_
    refine at_seq ?_
    refine at_region ?_
    refine at_q rfl rfl (by decide) (qt_move rfl rfl) ?_
    refine at_q rfl rfl (by decide) (qt_lss rfl rfl rfl) ?_
    refine at_end ?_
    refine at_cond rfl (fun c6 => ?_) (fun c6 => ?_)
    · try simp only [decide_eq_true_eq, decide_eq_false_iff_not, beq_iff_eq, beq_eq_false_iff_ne, Bool.not_eq_true', Bool.not_eq_false', Bool.not_true, Bool.not_false, Int.not_lt, Int.not_le, ne_eq, Nat.not_lt, Nat.not_le] at c6
      refine at_seq ?_
      refine at_region ?_
      refine at_q rfl rfl (by decide) (qt_assign rfl rfl) ?_
      refine at_end ?_
      refine at_retc ?_
      refine then_ret ?_
      refine at_ret1 rfl (.tmp rfl) ?_
      intro w' hs
      have ht := far_none (hfar ▸ c6)
      exact ⟨_, rfl, by rw [ht]; exact ⟨rfl, .inl ⟨rfl, rfl⟩⟩, hs.fin⟩
    · try simp only [decide_eq_true_eq, decide_eq_false_iff_not, beq_iff_eq, beq_eq_false_iff_ne, Bool.not_eq_true', Bool.not_eq_false', Bool.not_true, Bool.not_false, Int.not_lt, Int.not_le, ne_eq, Nat.not_lt, Nat.not_le] at c6
      obtain ⟨j, hj, hj1, hj2⟩ := far_some (show 0 ≤ far r xs from hfar ▸ c6)
      obtain ⟨et, ec⟩ := thin_cells hj hj1 hj2
      have ht1 := thin_len r _ (xs.take (j + 1)) (Nat.le_refl _)
      have ht2 := thin_len r _ (xs.drop j) (Nat.le_refl _)
      rw [List.length_take] at ht1
      rw [List.length_drop] at ht2
      refine at_as 7 (.int .i64 (j : Int)) rfl (congrArg _ (hfar ▸ hj)) ?_
      refine at_skip ?_
      refine norm_then ?_
      refine at_seq ?_
      refine dg_start mixed rfl ?_
      refine dg_phase 11 ?_
      refine dg_q (i := 0) rfl (by kernel_rfl) (by kernel_rfl) (by kernel_rfl) [3, 5] (by kernel_rfl) (fun _ _ _ h => h) rfl rfl (by decide) (fun _ h => h.upto ⟨rfl, rfl, trivial⟩) (qt_move rfl rfl) ?_
      refine dg_q (i := 1) rfl (by kernel_rfl) (by kernel_rfl) (by kernel_rfl) [2, 3, 5] (by kernel_rfl) (fun _ _ _ h => h) rfl rfl (by decide) (fun _ h => h.upto ⟨rfl, rfl, trivial⟩) (qt_move rfl rfl) ?_
      refine dg_q (i := 2) rfl (by kernel_rfl) (by kernel_rfl) (by kernel_rfl) [3, 5] (by kernel_rfl) (fun _ _ _ h => h) rfl rfl (by decide) (fun _ h => h.upto ⟨rfl, rfl, trivial⟩) ((qt_add rfl rfl rfl (by omega) (by omega)).as (congrArg _ (show ((j : Int) + 1) = ((j + 1 : Nat) : Int) by omega))) ?_
      refine dg_q (i := 3) rfl (by kernel_rfl) (by kernel_rfl) (by kernel_rfl) [5] (by kernel_rfl) (fun _ _ _ h => h) rfl rfl (by decide) (fun _ h => h.upto ⟨rfl, rfl, trivial⟩) ((qt_sliceH rfl rfl rfl tyl_sl_impl_Pt (by omega)).as (slicedH _ _ _ _ _)) ?_
      refine dg_q (i := 4) rfl (by kernel_rfl) (by kernel_rfl) (by kernel_rfl) [5] (by kernel_rfl) (fun _ _ _ h => h) rfl rfl (by decide) (fun _ h => h.upto ⟨rfl, rfl, trivial⟩) (qt_move rfl rfl) ?_
      refine dg_q (i := 6) rfl (by kernel_rfl) (by kernel_rfl) (by kernel_rfl) [8, 9, 10] (by kernel_rfl) (fun _ _ _ h => h) rfl rfl (by decide) (fun _ h => h.upto ⟨rfl, rfl, trivial⟩) (qt_move rfl rfl) ?_
      refine dg_q (i := 7) rfl (by kernel_rfl) (by kernel_rfl) (by kernel_rfl) [8, 9, 10] (by kernel_rfl) (fun _ _ _ h => h) rfl rfl (by decide) (fun _ h => h.upto ⟨rfl, rfl, trivial⟩) (qt_move rfl rfl) ?_
      refine dg_q (i := 8) rfl (by kernel_rfl) (by kernel_rfl) (by kernel_rfl) [9, 10] (by kernel_rfl) (fun _ _ _ h => h) rfl rfl (by decide) (fun _ h => h.upto ⟨rfl, rfl, trivial⟩) (qt_index rfl rfl rfl tyl_sl_impl_Pt (by omega)) ?_
      refine dg_q (i := 9) rfl (by kernel_rfl) (by kernel_rfl) (by kernel_rfl) [10] (by kernel_rfl) (fun _ _ _ h => h) rfl rfl (by decide) (fun _ h => h.upto ⟨rfl, rfl, trivial⟩) (qt_loadS rfl rfl tys_impl_Pt rfl (rdPts h (by omega))) ?_
      refine dg_two (i := 5) (j := 10) rfl rfl (by decide) (by decide) (by kernel_rfl) rfl rfl ?_ ?_
      · refine op_call ok_impl_thinPath (v := fun x => .slice x.1 _ x.2) (r := fun x => rowR 0 24 2 _ _ x) (H := fun _ => True) rfl rfl rfl (by decide) (fun w1 hs => newRow' (ih b o (j + 1) c (xs.take (j + 1)) w1 (by omega) (ptsTake (h.over hs.fin) (by omega)) (hx.take _) (by omega) (by omega))) ?_
        rintro ⟨pA, pc⟩ -
        refine at_rsE (by simp only [List.nil_append, List.cons_append, List.set_cons_zero, List.set_cons_succ, Value.cells, List.toList_toArray]; rfl) ?_
        refine dr_keep (fun _ h => h.upto ⟨rfl, rfl, trivial⟩) ?_
        refine dg_one (i := 10) rfl (by decide) (by kernel_rfl) rfl ?_
        refine op_buildSlice rfl rfl (bsl_sl_impl_Pt_1_0 rfl) rfl (by decide) (fun b3 => ?_)
        refine at_rsE (by simp only [List.nil_append, List.cons_append, List.set_cons_zero, List.set_cons_succ, Value.cells, List.toList_toArray]; rfl) ?_
        refine dr_keep (fun _ h => h.upto ⟨rfl, rfl, trivial⟩) ?_
        refine dg_bar rfl (by kernel_rfl) rfl ?_
        refine op_appendR (k := 2) rfl tyl_sl_impl_Pt tyz_impl_Pt (by decide) rfl (by decide) rfl rfl rfl (fun w' hs => src_cel hs (k := 3) rfl rfl) (by simp [Value.oneCell']) (by unfold maxLen; omega) (by omega) (Nat.zero_le _) (fun r1 => ?_)
        refine at_rsE (by simp only [List.nil_append, List.cons_append, List.set_cons_zero, List.set_cons_succ, Value.cells, List.toList_toArray]; rfl) ?_
        refine dg_phase 13 ?_
        refine dg_q (i := 12) rfl (by kernel_rfl) (by kernel_rfl) (by kernel_rfl) [] (by kernel_rfl) (fun _ _ _ h => h) rfl rfl (by decide) (fun _ h => h.upto ⟨rfl, rfl, rfl, rfl, trivial⟩) (qt_assign rfl rfl) ?_
        refine dg_done (by kernel_rfl) ?_
        refine norm_then ?_
        refine at_seq ?_
        refine at_region ?_
        refine at_q rfl rfl (by decide) (qt_move rfl rfl) ?_
        refine at_q rfl rfl (by decide) (qt_move rfl rfl) ?_
        refine at_q rfl rfl (by decide) (qt_move rfl rfl) ?_
        refine at_q rfl rfl (by decide) ((qt_sliceL rfl rfl rfl tyl_sl_impl_Pt (by omega)).as (slicedL (b := b) (o := o) (l := j) (h := n) (m := c) (s := 2) hc (by omega))) ?_
        refine at_q rfl rfl (by decide) (qt_move rfl rfl) ?_
        refine at_op rfl ?_
        refine op_call ok_impl_thinPath (v := fun x => .slice x.1 _ x.2) (r := fun x => rowR 0 24 2 _ _ x) (H := fun _ => True) rfl rfl rfl (by decide) (fun w1 hs => newRow' (ih b _ (n - j) (c - j) (xs.drop j) w1 (by omega) (ptsDrop (h.over hs.fin) (by omega) hc) (hx.drop _) (by omega) (by omega))) ?_
        rintro ⟨qA, qc⟩ -
        refine at_rsE (by simp only [List.nil_append, List.cons_append, List.set_cons_zero, List.set_cons_succ, Value.cells, List.toList_toArray]; rfl) ?_
        refine at_op rfl ?_
        refine op_appendR (k := 2) rfl tyl_sl_impl_Pt tyz_impl_Pt (by decide) rfl (by decide) rfl rfl rfl (fun w' hs => src_row hs (k := 4) rfl) (ptCells_one _) (by unfold maxLen; omega) (by omega) (Nat.zero_le _) (fun r2 => ?_)
        refine at_rsE (by simp only [List.nil_append, List.cons_append, List.set_cons_zero, List.set_cons_succ, Value.cells, List.toList_toArray]; rfl) ?_
        refine at_q rfl rfl (by decide) (qt_assign rfl rfl) ?_
        refine at_end ?_
        refine at_retc ?_
        refine at_ret1 rfl (.tmp rfl) ?_
        intro w' hs
        have hr := hs.all 2 _ rfl
        exact ⟨_, rfl, by rw [et, ec]; exact rowUp hr.1 (fun b hb => (hr.2.1 b hb).elim id (fun h => by cases h)), hs.fin⟩
      · refine op_buildSlice rfl rfl (bsl_sl_impl_Pt_1_0 rfl) rfl (by decide) (fun b4 => ?_)
        refine at_rsE (by simp only [List.nil_append, List.cons_append, List.set_cons_zero, List.set_cons_succ, Value.cells, List.toList_toArray]; rfl) ?_
        refine dr_keep (fun _ h => h.upto ⟨rfl, rfl, trivial⟩) ?_
        refine dg_one (i := 5) rfl (by decide) (by kernel_rfl) rfl ?_
        refine op_call ok_impl_thinPath (v := fun x => .slice x.1 _ x.2) (r := fun x => rowR 0 24 2 _ _ x) (H := fun _ => True) rfl rfl rfl (by decide) (fun w1 hs => newRow' (ih b o (j + 1) c (xs.take (j + 1)) w1 (by omega) (ptsTake (h.over hs.fin) (by omega)) (hx.take _) (by omega) (by omega))) ?_
        rintro ⟨pA, pc⟩ -
        refine at_rsE (by simp only [List.nil_append, List.cons_append, List.set_cons_zero, List.set_cons_succ, Value.cells, List.toList_toArray]; rfl) ?_
        refine dr_keep (fun _ h => h.upto ⟨rfl, rfl, trivial⟩) ?_
        refine dg_bar rfl (by kernel_rfl) rfl ?_
        refine op_appendR (k := 3) rfl tyl_sl_impl_Pt tyz_impl_Pt (by decide) rfl (by decide) rfl rfl rfl (fun w' hs => src_cel hs (k := 2) rfl rfl) (by simp [Value.oneCell']) (by unfold maxLen; omega) (by omega) (Nat.zero_le _) (fun r3 => ?_)
        refine at_rsE (by simp only [List.nil_append, List.cons_append, List.set_cons_zero, List.set_cons_succ, Value.cells, List.toList_toArray]; rfl) ?_
        refine dg_phase 13 ?_
        refine dg_q (i := 12) rfl (by kernel_rfl) (by kernel_rfl) (by kernel_rfl) [] (by kernel_rfl) (fun _ _ _ h => h) rfl rfl (by decide) (fun _ h => h.upto ⟨rfl, rfl, rfl, rfl, trivial⟩) (qt_assign rfl rfl) ?_
        refine dg_done (by kernel_rfl) ?_
        refine norm_then ?_
        refine at_seq ?_
        refine at_region ?_
        refine at_q rfl rfl (by decide) (qt_move rfl rfl) ?_
        refine at_q rfl rfl (by decide) (qt_move rfl rfl) ?_
        refine at_q rfl rfl (by decide) (qt_move rfl rfl) ?_
        refine at_q rfl rfl (by decide) ((qt_sliceL rfl rfl rfl tyl_sl_impl_Pt (by omega)).as (slicedL (b := b) (o := o) (l := j) (h := n) (m := c) (s := 2) hc (by omega))) ?_
        refine at_q rfl rfl (by decide) (qt_move rfl rfl) ?_
        refine at_op rfl ?_
        refine op_call ok_impl_thinPath (v := fun x => .slice x.1 _ x.2) (r := fun x => rowR 0 24 2 _ _ x) (H := fun _ => True) rfl rfl rfl (by decide) (fun w1 hs => newRow' (ih b _ (n - j) (c - j) (xs.drop j) w1 (by omega) (ptsDrop (h.over hs.fin) (by omega) hc) (hx.drop _) (by omega) (by omega))) ?_
        rintro ⟨qA, qc⟩ -
        refine at_rsE (by simp only [List.nil_append, List.cons_append, List.set_cons_zero, List.set_cons_succ, Value.cells, List.toList_toArray]; rfl) ?_
        refine at_op rfl ?_
        refine op_appendR (k := 3) rfl tyl_sl_impl_Pt tyz_impl_Pt (by decide) rfl (by decide) rfl rfl rfl (fun w' hs => src_row hs (k := 4) rfl) (ptCells_one _) (by unfold maxLen; omega) (by omega) (Nat.zero_le _) (fun r4 => ?_)
        refine at_rsE (by simp only [List.nil_append, List.cons_append, List.set_cons_zero, List.set_cons_succ, Value.cells, List.toList_toArray]; rfl) ?_
        refine at_q rfl rfl (by decide) (qt_assign rfl rfl) ?_
        refine at_end ?_
        refine at_retc ?_
        refine at_ret1 rfl (.tmp rfl) ?_
        intro w' hs
        have hr := hs.all 3 _ rfl
        exact ⟨_, rfl, by rw [et, ec]; exact rowUp hr.1 (fun b hb => (hr.2.1 b hb).elim id (fun h => by cases h)), hs.fin⟩
theorem l15Thin_step {b o n c : Nat} {xs : List (Int × Int)} {r : Int} (w : World) (h : Pts w (some ⟨b, o, none⟩) n xs) (hx : okPath xs) (h2 : 2 ≤ n) (hc : n ≤ c) (hr : 0 ≤ r ∧ r ≤ 262144)
    (ih : ∀ (b o n' c : Nat) (xs : List (Int × Int)) (w : World), n' < n → Pts w (some ⟨b, o, none⟩) n' xs → okPath xs → 2 ≤ n' → n' ≤ c → Calls Try.prog 79 #[.slice (some ⟨b, o, none⟩) n' c, .int .i64 r] w fun e w' => ∃ v, e = .returned v ∧ w'.ownsRow w.heap.size 24 2 v (thin r xs).length ((thin r xs).flatMap ptCells) ∧ Over w w') :
    Calls Try.prog 79 #[.slice (some ⟨b, o, none⟩) n c, .int .i64 r] w fun e w' => ∃ v, e = .returned v ∧ w'.ownsRow w.heap.size 24 2 v (thin r xs).length ((thin r xs).flatMap ptCells) ∧ Over w w' := by
  have hl := h.1
  have hn := hx.1
  refine walk_from (m := 95) (Try.func79) rfl rfl (Nat.le_of_ble_eq_true rfl) ?_
  refine at_seq ?_
  refine at_region ?_
  refine at_q rfl rfl (by decide) (qt_assign rfl rfl) ?_
  refine at_end ?_
  refine at_seq ?_
  refine at_region ?_
  refine at_q rfl rfl (by decide) (qt_move rfl rfl) ?_
  refine at_q rfl rfl (by decide) (qt_len rfl rfl tyl_sl_impl_Pt) ?_
  refine at_q rfl rfl (by decide) (qt_assign rfl rfl) ?_
  refine at_end ?_
  refine at_seq ?_
  refine at_region ?_
  refine at_q rfl rfl (by decide) (qt_assign rfl rfl) ?_
  refine at_end ?_
  refine at_seq ?_
  refine at_region ?_
  refine at_q rfl rfl (by decide) (qt_assign rfl rfl) ?_
  refine at_end ?_
  refine at_seq ?_
  refine at_seq ?_
  refine at_region ?_
  refine at_q rfl rfl (by decide) (qt_assign rfl rfl) ?_
  refine at_end ?_
  refine at_block ?_
  refine at_loopk (X := Nat) (fun k => k + 2 ≤ n) (fun k => n - k) (fun k => [(6, .int .i64 (scan (pt xs 0) (pt xs (n - 1)) r xs k).1), (7, .int .i64 (scan (pt xs 0) (pt xs (n - 1)) r xs k).2), (8, .int .i64 ((k + 1 : Nat) : Int))]) (C := [(0, _), (1, _), (4, _), (5, _)]) ⟨rfl, rfl, rfl, rfl, trivial⟩ 0 (h2) ⟨rfl, rfl, rfl, rfl, rfl, rfl, rfl, trivial⟩ ?_
  intro k hk L hL1
  refine at_envE (by simp only [List.nil_append, List.cons_append]; rfl) ?_
  refine at_seq ?_
  refine at_seq ?_
  refine at_region ?_
  refine at_q rfl rfl (by decide) (qt_move rfl rfl) ?_
  refine at_q rfl rfl (by decide) (qt_add rfl rfl rfl (by omega) (by omega)) ?_
  refine at_q rfl rfl (by decide) (qt_move rfl rfl) ?_
  refine at_q rfl rfl (by decide) (qt_lss rfl rfl rfl) ?_
  refine at_end ?_
  refine at_cond rfl (fun c1 => ?_) (fun c1 => ?_)
  · try simp only [decide_eq_true_eq, decide_eq_false_iff_not, beq_iff_eq, beq_eq_false_iff_ne, Bool.not_eq_true', Bool.not_eq_false', Bool.not_true, Bool.not_false, Int.not_lt, Int.not_le, ne_eq, Nat.not_lt, Nat.not_le] at c1
    have hlt : k + 1 < n := (by omega)
    have ha := hx.at_ (k := 0) (by omega)
    have hb := hx.at_ (k := n - 1) (by omega)
    have hp := hx.at_ (k := k + 1) (by omega)
    have hto := tn_bd ha hb hp
    have ecast : ((n : Int) - 1) = ((n - 1 : Nat) : Int) := (by omega)
    refine at_skip ?_
    refine norm_then ?_
    refine at_seq ?_
    refine at_block ?_
    refine at_seq ?_
    refine at_seq ?_
    refine dg_start mixed rfl ?_
    refine dg_phase 14 ?_
    refine dg_q (i := 0) rfl (by kernel_rfl) (by kernel_rfl) (by kernel_rfl) [] (by kernel_rfl) (fun _ _ _ h => h) rfl rfl (by decide) (fun _ h => h.upto trivial) (qt_move rfl rfl) ?_
    refine dg_q (i := 1) rfl (by kernel_rfl) (by kernel_rfl) (by kernel_rfl) [] (by kernel_rfl) (fun _ _ _ h => h) rfl rfl (by decide) (fun _ h => h.upto trivial) (qt_index (j := 0) rfl rfl rfl tyl_sl_impl_Pt (by omega)) ?_
    refine dg_q (i := 2) rfl (by kernel_rfl) (by kernel_rfl) (by kernel_rfl) [] (by kernel_rfl) (fun _ _ _ h => h) rfl rfl (by decide) (fun _ h => h.upto trivial) (qt_loadS rfl rfl tys_impl_Pt rfl (rdPts h (by omega))) ?_
    refine dg_q (i := 3) rfl (by kernel_rfl) (by kernel_rfl) (by kernel_rfl) [] (by kernel_rfl) (fun _ _ _ h => h) rfl rfl (by decide) (fun _ h => h.upto trivial) (qt_move rfl rfl) ?_
    refine dg_q (i := 4) rfl (by kernel_rfl) (by kernel_rfl) (by kernel_rfl) [] (by kernel_rfl) (fun _ _ _ h => h) rfl rfl (by decide) (fun _ h => h.upto trivial) (qt_move rfl rfl) ?_
    refine dg_q (i := 5) rfl (by kernel_rfl) (by kernel_rfl) (by kernel_rfl) [] (by kernel_rfl) (fun _ _ _ h => h) rfl rfl (by decide) (fun _ h => h.upto trivial) ((qt_sub rfl rfl rfl (by omega) (by omega)).as (congrArg _ ecast)) ?_
    refine dg_q (i := 6) rfl (by kernel_rfl) (by kernel_rfl) (by kernel_rfl) [] (by kernel_rfl) (fun _ _ _ h => h) rfl rfl (by decide) (fun _ h => h.upto trivial) (qt_index rfl rfl rfl tyl_sl_impl_Pt (by omega)) ?_
    refine dg_q (i := 7) rfl (by kernel_rfl) (by kernel_rfl) (by kernel_rfl) [] (by kernel_rfl) (fun _ _ _ h => h) rfl rfl (by decide) (fun _ h => h.upto trivial) (qt_loadS rfl rfl tys_impl_Pt rfl (rdPts h (by omega))) ?_
    refine dg_q (i := 8) rfl (by kernel_rfl) (by kernel_rfl) (by kernel_rfl) [] (by kernel_rfl) (fun _ _ _ h => h) rfl rfl (by decide) (fun _ h => h.upto trivial) (qt_move rfl rfl) ?_
    refine dg_q (i := 9) rfl (by kernel_rfl) (by kernel_rfl) (by kernel_rfl) [] (by kernel_rfl) (fun _ _ _ h => h) rfl rfl (by decide) (fun _ h => h.upto trivial) (qt_move rfl rfl) ?_
    refine dg_q (i := 10) rfl (by kernel_rfl) (by kernel_rfl) (by kernel_rfl) [] (by kernel_rfl) (fun _ _ _ h => h) rfl rfl (by decide) (fun _ h => h.upto trivial) (qt_index rfl rfl rfl tyl_sl_impl_Pt (by omega)) ?_
    refine dg_q (i := 11) rfl (by kernel_rfl) (by kernel_rfl) (by kernel_rfl) [] (by kernel_rfl) (fun _ _ _ h => h) rfl rfl (by decide) (fun _ h => h.upto trivial) (qt_loadS rfl rfl tys_impl_Pt rfl (rdPts h (by omega))) ?_
    refine dg_q (i := 12) rfl (by kernel_rfl) (by kernel_rfl) (by kernel_rfl) [] (by kernel_rfl) (fun _ _ _ h => h) rfl rfl (by decide) (fun _ h => h.upto trivial) (qt_move rfl rfl) ?_
    refine dg_q (i := 13) rfl (by kernel_rfl) (by kernel_rfl) (by kernel_rfl) [] (by kernel_rfl) (fun _ _ _ h => h) rfl rfl (by decide) (fun _ h => h.upto trivial) (qt_call ok_spec_l03Near rfl rfl (fun w _ => l03Near_p (pt xs 0) (pt xs (n - 1)) (pt xs (k + 1)) r w ha hb hp hr)) ?_
    refine dg_done (by kernel_rfl) ?_
    refine norm_then ?_
    refine at_cond rfl (fun c2 => ?_) (fun c2 => ?_)
    · try simp only [decide_eq_true_eq, decide_eq_false_iff_not, beq_iff_eq, beq_eq_false_iff_ne, Bool.not_eq_true', Bool.not_eq_false', Bool.not_true, Bool.not_false, Int.not_lt, Int.not_le, ne_eq, Nat.not_lt, Nat.not_le] at c2
      refine at_exit ?_
      refine pass_then (fun h => by cases h) ?_
      refine pass_hit ?_
      refine norm_then ?_
      refine at_region ?_
      refine at_q rfl rfl (by decide) (qt_move rfl rfl) ?_
      refine at_q rfl rfl (by decide) (qt_add rfl rfl rfl (by omega) (by omega)) ?_
      refine at_q rfl rfl (by decide) (qt_assign rfl rfl) ?_
      refine at_end ?_
      exact at_againk hL1 (k + 1) (by omega) (by omega) ⟨vi (by rw [scan_near c2]), vi (by rw [scan_near c2]), vi (by omega), rfl, rfl, rfl, rfl, trivial⟩ (fun _ h => h.upto trivial)
    · try simp only [decide_eq_true_eq, decide_eq_false_iff_not, beq_iff_eq, beq_eq_false_iff_ne, Bool.not_eq_true', Bool.not_eq_false', Bool.not_true, Bool.not_false, Int.not_lt, Int.not_le, ne_eq, Nat.not_lt, Nat.not_le] at c2
      refine at_skip ?_
      refine norm_then ?_
      refine at_seq ?_
      refine dg_start mixed rfl ?_
      refine dg_phase 14 ?_
      refine dg_q (i := 0) rfl (by kernel_rfl) (by kernel_rfl) (by kernel_rfl) [] (by kernel_rfl) (fun _ _ _ h => h) rfl rfl (by decide) (fun _ h => h.upto trivial) (qt_move rfl rfl) ?_
      refine dg_q (i := 1) rfl (by kernel_rfl) (by kernel_rfl) (by kernel_rfl) [] (by kernel_rfl) (fun _ _ _ h => h) rfl rfl (by decide) (fun _ h => h.upto trivial) (qt_index (j := 0) rfl rfl rfl tyl_sl_impl_Pt (by omega)) ?_
      refine dg_q (i := 2) rfl (by kernel_rfl) (by kernel_rfl) (by kernel_rfl) [] (by kernel_rfl) (fun _ _ _ h => h) rfl rfl (by decide) (fun _ h => h.upto trivial) (qt_loadS rfl rfl tys_impl_Pt rfl (rdPts h (by omega))) ?_
      refine dg_q (i := 3) rfl (by kernel_rfl) (by kernel_rfl) (by kernel_rfl) [] (by kernel_rfl) (fun _ _ _ h => h) rfl rfl (by decide) (fun _ h => h.upto trivial) (qt_move rfl rfl) ?_
      refine dg_q (i := 4) rfl (by kernel_rfl) (by kernel_rfl) (by kernel_rfl) [] (by kernel_rfl) (fun _ _ _ h => h) rfl rfl (by decide) (fun _ h => h.upto trivial) (qt_move rfl rfl) ?_
      refine dg_q (i := 5) rfl (by kernel_rfl) (by kernel_rfl) (by kernel_rfl) [] (by kernel_rfl) (fun _ _ _ h => h) rfl rfl (by decide) (fun _ h => h.upto trivial) ((qt_sub rfl rfl rfl (by omega) (by omega)).as (congrArg _ ecast)) ?_
      refine dg_q (i := 6) rfl (by kernel_rfl) (by kernel_rfl) (by kernel_rfl) [] (by kernel_rfl) (fun _ _ _ h => h) rfl rfl (by decide) (fun _ h => h.upto trivial) (qt_index rfl rfl rfl tyl_sl_impl_Pt (by omega)) ?_
      refine dg_q (i := 7) rfl (by kernel_rfl) (by kernel_rfl) (by kernel_rfl) [] (by kernel_rfl) (fun _ _ _ h => h) rfl rfl (by decide) (fun _ h => h.upto trivial) (qt_loadS rfl rfl tys_impl_Pt rfl (rdPts h (by omega))) ?_
      refine dg_q (i := 8) rfl (by kernel_rfl) (by kernel_rfl) (by kernel_rfl) [] (by kernel_rfl) (fun _ _ _ h => h) rfl rfl (by decide) (fun _ h => h.upto trivial) (qt_move rfl rfl) ?_
      refine dg_q (i := 9) rfl (by kernel_rfl) (by kernel_rfl) (by kernel_rfl) [] (by kernel_rfl) (fun _ _ _ h => h) rfl rfl (by decide) (fun _ h => h.upto trivial) (qt_move rfl rfl) ?_
      refine dg_q (i := 10) rfl (by kernel_rfl) (by kernel_rfl) (by kernel_rfl) [] (by kernel_rfl) (fun _ _ _ h => h) rfl rfl (by decide) (fun _ h => h.upto trivial) (qt_index rfl rfl rfl tyl_sl_impl_Pt (by omega)) ?_
      refine dg_q (i := 11) rfl (by kernel_rfl) (by kernel_rfl) (by kernel_rfl) [] (by kernel_rfl) (fun _ _ _ h => h) rfl rfl (by decide) (fun _ h => h.upto trivial) (qt_loadS rfl rfl tys_impl_Pt rfl (rdPts h (by omega))) ?_
      refine dg_q (i := 12) rfl (by kernel_rfl) (by kernel_rfl) (by kernel_rfl) [] (by kernel_rfl) (fun _ _ _ h => h) rfl rfl (by decide) (fun _ h => h.upto trivial) (qt_call ok_spec_l03Turn rfl rfl (fun w _ => l03Turn_p (pt xs 0) (pt xs (n - 1)) (pt xs (k + 1)) w ha hb hp)) ?_
      refine dg_q (i := 13) rfl (by kernel_rfl) (by kernel_rfl) (by kernel_rfl) [] (by kernel_rfl) (fun _ _ _ h => h) rfl rfl (by decide) (fun _ h => h.upto trivial) (qt_assign rfl rfl) ?_
      refine dg_done (by kernel_rfl) ?_
      refine norm_then ?_
      refine at_seq ?_
      refine at_region ?_
      refine at_q rfl rfl (by decide) (qt_move rfl rfl) ?_
      refine at_q rfl rfl (by decide) (qt_move rfl rfl) ?_
      refine at_q rfl rfl (by decide) (qt_neg rfl rfl (by omega) (by omega)) ?_
      refine at_q rfl rfl (by decide) (qt_call ok_spec_l00Max rfl rfl (fun w h => Calls.still (l00Max_any _ _ w))) ?_
      refine at_q rfl rfl (by decide) (qt_assign rfl rfl) ?_
      refine at_end ?_
      refine at_seq ?_
      refine at_seq ?_
      refine dg_start mixed rfl ?_
      refine dg_phase 9 ?_
      refine dg_q (i := 0) rfl (by kernel_rfl) (by kernel_rfl) (by kernel_rfl) [] (by kernel_rfl) (fun _ _ _ h => h) rfl rfl (by decide) (fun _ h => h.upto trivial) (qt_move rfl rfl) ?_
      refine dg_q (i := 1) rfl (by kernel_rfl) (by kernel_rfl) (by kernel_rfl) [] (by kernel_rfl) (fun _ _ _ h => h) rfl rfl (by decide) (fun _ h => h.upto trivial) (qt_index (j := 0) rfl rfl rfl tyl_sl_impl_Pt (by omega)) ?_
      refine dg_q (i := 2) rfl (by kernel_rfl) (by kernel_rfl) (by kernel_rfl) [] (by kernel_rfl) (fun _ _ _ h => h) rfl rfl (by decide) (fun _ h => h.upto trivial) (qt_loadS rfl rfl tys_impl_Pt rfl (rdPts h (by omega))) ?_
      refine dg_q (i := 3) rfl (by kernel_rfl) (by kernel_rfl) (by kernel_rfl) [] (by kernel_rfl) (fun _ _ _ h => h) rfl rfl (by decide) (fun _ h => h.upto trivial) (qt_move rfl rfl) ?_
      refine dg_q (i := 4) rfl (by kernel_rfl) (by kernel_rfl) (by kernel_rfl) [] (by kernel_rfl) (fun _ _ _ h => h) rfl rfl (by decide) (fun _ h => h.upto trivial) (qt_move rfl rfl) ?_
      refine dg_q (i := 5) rfl (by kernel_rfl) (by kernel_rfl) (by kernel_rfl) [] (by kernel_rfl) (fun _ _ _ h => h) rfl rfl (by decide) (fun _ h => h.upto trivial) ((qt_sub rfl rfl rfl (by omega) (by omega)).as (congrArg _ ecast)) ?_
      refine dg_q (i := 6) rfl (by kernel_rfl) (by kernel_rfl) (by kernel_rfl) [] (by kernel_rfl) (fun _ _ _ h => h) rfl rfl (by decide) (fun _ h => h.upto trivial) (qt_index rfl rfl rfl tyl_sl_impl_Pt (by omega)) ?_
      refine dg_q (i := 7) rfl (by kernel_rfl) (by kernel_rfl) (by kernel_rfl) [] (by kernel_rfl) (fun _ _ _ h => h) rfl rfl (by decide) (fun _ h => h.upto trivial) (qt_loadS rfl rfl tys_impl_Pt rfl (rdPts h (by omega))) ?_
      refine dg_q (i := 8) rfl (by kernel_rfl) (by kernel_rfl) (by kernel_rfl) [] (by kernel_rfl) (fun _ _ _ h => h) rfl rfl (by decide) (fun _ h => h.upto trivial) (qt_eqlS_impl_Pt rfl rfl rfl) ?_
      refine dg_done (by kernel_rfl) ?_
      refine norm_then ?_
      refine at_cond rfl (fun c3 => ?_) (fun c3 => ?_)
      · try simp only [decide_eq_true_eq, decide_eq_false_iff_not, beq_iff_eq, beq_eq_false_iff_ne, Bool.not_eq_true', Bool.not_eq_false', Bool.not_true, Bool.not_false, Int.not_lt, Int.not_le, ne_eq, Nat.not_lt, Nat.not_le] at c3
        have ho := offP_eq (a := pt xs 0) (b := pt xs (n - 1)) (pt xs (k + 1)) c3
        refine dg_start mixed rfl ?_
        refine dg_phase 9 ?_
        refine dg_q (i := 0) rfl (by kernel_rfl) (by kernel_rfl) (by kernel_rfl) [] (by kernel_rfl) (fun _ _ _ h => h) rfl rfl (by decide) (fun _ h => h.upto trivial) (qt_move rfl rfl) ?_
        refine dg_q (i := 1) rfl (by kernel_rfl) (by kernel_rfl) (by kernel_rfl) [] (by kernel_rfl) (fun _ _ _ h => h) rfl rfl (by decide) (fun _ h => h.upto trivial) (qt_index (j := 0) rfl rfl rfl tyl_sl_impl_Pt (by omega)) ?_
        refine dg_q (i := 2) rfl (by kernel_rfl) (by kernel_rfl) (by kernel_rfl) [] (by kernel_rfl) (fun _ _ _ h => h) rfl rfl (by decide) (fun _ h => h.upto trivial) (qt_loadS rfl rfl tys_impl_Pt rfl (rdPts h (by omega))) ?_
        refine dg_q (i := 3) rfl (by kernel_rfl) (by kernel_rfl) (by kernel_rfl) [] (by kernel_rfl) (fun _ _ _ h => h) rfl rfl (by decide) (fun _ h => h.upto trivial) (qt_move rfl rfl) ?_
        refine dg_q (i := 4) rfl (by kernel_rfl) (by kernel_rfl) (by kernel_rfl) [] (by kernel_rfl) (fun _ _ _ h => h) rfl rfl (by decide) (fun _ h => h.upto trivial) (qt_move rfl rfl) ?_
        refine dg_q (i := 5) rfl (by kernel_rfl) (by kernel_rfl) (by kernel_rfl) [] (by kernel_rfl) (fun _ _ _ h => h) rfl rfl (by decide) (fun _ h => h.upto trivial) (qt_index rfl rfl rfl tyl_sl_impl_Pt (by omega)) ?_
        refine dg_q (i := 6) rfl (by kernel_rfl) (by kernel_rfl) (by kernel_rfl) [] (by kernel_rfl) (fun _ _ _ h => h) rfl rfl (by decide) (fun _ h => h.upto trivial) (qt_loadS rfl rfl tys_impl_Pt rfl (rdPts h (by omega))) ?_
        refine dg_q (i := 7) rfl (by kernel_rfl) (by kernel_rfl) (by kernel_rfl) [] (by kernel_rfl) (fun _ _ _ h => h) rfl rfl (by decide) (fun _ h => h.upto trivial) (qt_call ok_spec_l03Sq rfl rfl (fun w _ => l03Sq_p (pt xs 0) (pt xs (k + 1)) w ha hp)) ?_
        refine dg_q (i := 8) rfl (by kernel_rfl) (by kernel_rfl) (by kernel_rfl) [] (by kernel_rfl) (fun _ _ _ h => h) rfl rfl (by decide) (fun _ h => h.upto trivial) (qt_assign rfl rfl) ?_
        refine dg_done (by kernel_rfl) ?_
        refine norm_then ?_
        refine at_seq ?_
        refine at_region ?_
        refine at_q rfl rfl (by decide) (qt_move rfl rfl) ?_
        refine at_q rfl rfl (by decide) (qt_move rfl rfl) ?_
        refine at_q rfl rfl (by decide) (qt_gtr rfl rfl rfl) ?_
        refine at_end ?_
        refine at_cond rfl (fun c4 => ?_) (fun c4 => ?_)
        · try simp only [decide_eq_true_eq, decide_eq_false_iff_not, beq_iff_eq, beq_eq_false_iff_ne, Bool.not_eq_true', Bool.not_eq_false', Bool.not_true, Bool.not_false, Int.not_lt, Int.not_le, ne_eq, Nat.not_lt, Nat.not_le] at c4
          refine at_seq ?_
          refine at_region ?_
          refine at_q rfl rfl (by decide) (qt_move rfl rfl) ?_
          refine at_q rfl rfl (by decide) (qt_assign rfl rfl) ?_
          refine at_end ?_
          refine at_region ?_
          refine at_q rfl rfl (by decide) (qt_move rfl rfl) ?_
          refine at_q rfl rfl (by decide) (qt_assign rfl rfl) ?_
          refine at_nil ?_
          refine norm_block ?_
          refine norm_then ?_
          refine at_region ?_
          refine at_q rfl rfl (by decide) (qt_move rfl rfl) ?_
          refine at_q rfl rfl (by decide) (qt_add rfl rfl rfl (by omega) (by omega)) ?_
          refine at_q rfl rfl (by decide) (qt_assign rfl rfl) ?_
          refine at_end ?_
          exact at_againk hL1 (k + 1) (by omega) (by omega) ⟨vi (by rw [scan_more (by simp [c2]) (by rw [ho]; exact c4)]), vi (by rw [scan_more (by simp [c2]) (by rw [ho]; exact c4), ho]), vi (by omega), rfl, rfl, rfl, rfl, trivial⟩ (fun _ h => h.upto trivial)
        · try simp only [decide_eq_true_eq, decide_eq_false_iff_not, beq_iff_eq, beq_eq_false_iff_ne, Bool.not_eq_true', Bool.not_eq_false', Bool.not_true, Bool.not_false, Int.not_lt, Int.not_le, ne_eq, Nat.not_lt, Nat.not_le] at c4
          refine at_skip ?_
          refine norm_block ?_
          refine norm_then ?_
          refine at_region ?_
          refine at_q rfl rfl (by decide) (qt_move rfl rfl) ?_
          refine at_q rfl rfl (by decide) (qt_add rfl rfl rfl (by omega) (by omega)) ?_
          refine at_q rfl rfl (by decide) (qt_assign rfl rfl) ?_
          refine at_end ?_
          exact at_againk hL1 (k + 1) (by omega) (by omega) ⟨vi (by rw [scan_less (by simp [c2]) (by rw [ho]; exact Int.not_lt.2 c4)]), vi (by rw [scan_less (by simp [c2]) (by rw [ho]; exact Int.not_lt.2 c4)]), vi (by omega), rfl, rfl, rfl, rfl, trivial⟩ (fun _ h => h.upto trivial)
      · try simp only [decide_eq_true_eq, decide_eq_false_iff_not, beq_iff_eq, beq_eq_false_iff_ne, Bool.not_eq_true', Bool.not_eq_false', Bool.not_true, Bool.not_false, Int.not_lt, Int.not_le, ne_eq, Nat.not_lt, Nat.not_le] at c3
        have ho := offP_ne (a := pt xs 0) (b := pt xs (n - 1)) (pt xs (k + 1)) c3
        refine at_skip ?_
        refine norm_then ?_
        refine at_seq ?_
        refine at_region ?_
        refine at_q rfl rfl (by decide) (qt_move rfl rfl) ?_
        refine at_q rfl rfl (by decide) (qt_move rfl rfl) ?_
        refine at_q rfl rfl (by decide) (qt_gtr rfl rfl rfl) ?_
        refine at_end ?_
        refine at_cond rfl (fun c5 => ?_) (fun c5 => ?_)
        · try simp only [decide_eq_true_eq, decide_eq_false_iff_not, beq_iff_eq, beq_eq_false_iff_ne, Bool.not_eq_true', Bool.not_eq_false', Bool.not_true, Bool.not_false, Int.not_lt, Int.not_le, ne_eq, Nat.not_lt, Nat.not_le] at c5
          refine at_seq ?_
          refine at_region ?_
          refine at_q rfl rfl (by decide) (qt_move rfl rfl) ?_
          refine at_q rfl rfl (by decide) (qt_assign rfl rfl) ?_
          refine at_end ?_
          refine at_region ?_
          refine at_q rfl rfl (by decide) (qt_move rfl rfl) ?_
          refine at_q rfl rfl (by decide) (qt_assign rfl rfl) ?_
          refine at_nil ?_
          refine norm_block ?_
          refine norm_then ?_
          refine at_region ?_
          refine at_q rfl rfl (by decide) (qt_move rfl rfl) ?_
          refine at_q rfl rfl (by decide) (qt_add rfl rfl rfl (by omega) (by omega)) ?_
          refine at_q rfl rfl (by decide) (qt_assign rfl rfl) ?_
          refine at_end ?_
          exact at_againk hL1 (k + 1) (by omega) (by omega) ⟨vi (by rw [scan_more (by simp [c2]) (by rw [ho]; exact c5)]), vi (by rw [scan_more (by simp [c2]) (by rw [ho]; exact c5), ho]), vi (by omega), rfl, rfl, rfl, rfl, trivial⟩ (fun _ h => h.upto trivial)
        · try simp only [decide_eq_true_eq, decide_eq_false_iff_not, beq_iff_eq, beq_eq_false_iff_ne, Bool.not_eq_true', Bool.not_eq_false', Bool.not_true, Bool.not_false, Int.not_lt, Int.not_le, ne_eq, Nat.not_lt, Nat.not_le] at c5
          refine at_skip ?_
          refine norm_block ?_
          refine norm_then ?_
          refine at_region ?_
          refine at_q rfl rfl (by decide) (qt_move rfl rfl) ?_
          refine at_q rfl rfl (by decide) (qt_add rfl rfl rfl (by omega) (by omega)) ?_
          refine at_q rfl rfl (by decide) (qt_assign rfl rfl) ?_
          refine at_end ?_
          exact at_againk hL1 (k + 1) (by omega) (by omega) ⟨vi (by rw [scan_less (by simp [c2]) (by rw [ho]; exact Int.not_lt.2 c5)]), vi (by rw [scan_less (by simp [c2]) (by rw [ho]; exact Int.not_lt.2 c5)]), vi (by omega), rfl, rfl, rfl, rfl, trivial⟩ (fun _ h => h.upto trivial)
  · try simp only [decide_eq_true_eq, decide_eq_false_iff_not, beq_iff_eq, beq_eq_false_iff_ne, Bool.not_eq_true', Bool.not_eq_false', Bool.not_true, Bool.not_false, Int.not_lt, Int.not_le, ne_eq, Nat.not_lt, Nat.not_le] at c1
    have hfar := far_at (r := r) hl (show k + 2 = n by omega)
    refine at_exit ?_
    refine pass_then (fun h => by cases h) ?_
    refine pass_then (fun h => by cases h) ?_
    refine pass_hit ?_
    refine norm_then ?_
    refine at_seq ?_
    refine at_seq ?_
    refine at_region ?_
    refine at_q rfl rfl (by decide) (qt_move rfl rfl) ?_
    refine at_q rfl rfl (by decide) (qt_lss rfl rfl rfl) ?_
    refine at_end ?_
    refine at_cond rfl (fun c6 => ?_) (fun c6 => ?_)
    · try simp only [decide_eq_true_eq, decide_eq_false_iff_not, beq_iff_eq, beq_eq_false_iff_ne, Bool.not_eq_true', Bool.not_eq_false', Bool.not_true, Bool.not_false, Int.not_lt, Int.not_le, ne_eq, Nat.not_lt, Nat.not_le] at c6
      refine at_seq ?_
      refine at_region ?_
      refine at_op rfl ?_
      refine op_buildSlice rfl rfl (bsl_sl_impl_Pt_0) rfl (by decide) (fun b1 => ?_)
      refine at_rowN 0 2 rfl rfl ?_
      refine at_rsE (by simp only [List.nil_append, List.cons_append, List.set_cons_zero, List.set_cons_succ, Value.cells, List.toList_toArray]; rfl) ?_
      refine at_q rfl rfl (by decide) (qt_assign rfl rfl) ?_
      refine at_end ?_
      refine at_retc ?_
      refine then_ret ?_
      refine at_ret1 rfl (.tmp rfl) ?_
      intro w' hs
      have ht := far_none (hfar ▸ c6)
      have hr := hs.all 0 _ rfl
      exact ⟨_, rfl, by rw [ht]; exact rowUp hr.1 (fun b hb => (hr.2.1 b hb).elim id (fun h => by cases h)), hs.fin⟩
    · try simp only [decide_eq_true_eq, decide_eq_false_iff_not, beq_iff_eq, beq_eq_false_iff_ne, Bool.not_eq_true', Bool.not_eq_false', Bool.not_true, Bool.not_false, Int.not_lt, Int.not_le, ne_eq, Nat.not_lt, Nat.not_le] at c6
      obtain ⟨j, hj, hj1, hj2⟩ := far_some (show 0 ≤ far r xs from hfar ▸ c6)
      obtain ⟨et, ec⟩ := thin_cells hj hj1 hj2
      have ht1 := thin_len r _ (xs.take (j + 1)) (Nat.le_refl _)
      have ht2 := thin_len r _ (xs.drop j) (Nat.le_refl _)
      rw [List.length_take] at ht1
      rw [List.length_drop] at ht2
      refine at_as 6 (.int .i64 (j : Int)) rfl (congrArg _ (hfar ▸ hj)) ?_
      refine at_skip ?_
      refine norm_then ?_
      refine at_seq ?_
      refine at_region ?_
      refine at_q rfl rfl (by decide) (qt_move rfl rfl) ?_
      refine at_q rfl rfl (by decide) (qt_move rfl rfl) ?_
      refine at_q rfl rfl (by decide) ((qt_add rfl rfl rfl (by omega) (by omega)).as (congrArg _ (show ((j : Int) + 1) = ((j + 1 : Nat) : Int) by omega))) ?_
      refine at_q rfl rfl (by decide) ((qt_sliceH rfl rfl rfl tyl_sl_impl_Pt (by omega)).as (slicedH _ _ _ _ _)) ?_
      refine at_q rfl rfl (by decide) (qt_move rfl rfl) ?_
      refine at_op rfl ?_
      refine op_call ok_spec_l15Thin (v := fun x => .slice x.1 _ x.2) (r := fun x => rowR 0 24 2 _ _ x) (H := fun _ => True) rfl rfl rfl (by decide) (fun w1 hs => newRow' (ih b o (j + 1) c (xs.take (j + 1)) w1 (by omega) (ptsTake (h.over hs.fin) (by omega)) (hx.take _) (by omega) (by omega))) ?_
      rintro ⟨pA, pc⟩ -
      refine at_rsE (by simp only [List.nil_append, List.cons_append, List.set_cons_zero, List.set_cons_succ, Value.cells, List.toList_toArray]; rfl) ?_
      refine at_q rfl rfl (by decide) (qt_assign rfl rfl) ?_
      refine at_end ?_
      refine at_seq ?_
      refine at_region ?_
      refine at_q rfl rfl (by decide) (qt_move rfl rfl) ?_
      refine at_q rfl rfl (by decide) (qt_move rfl rfl) ?_
      refine at_q rfl rfl (by decide) (qt_move rfl rfl) ?_
      refine at_q rfl rfl (by decide) (qt_index rfl rfl rfl tyl_sl_impl_Pt (by omega)) ?_
      refine at_q rfl rfl (by decide) (qt_loadS rfl rfl tys_impl_Pt rfl (rdPts h (by omega))) ?_
      refine at_op rfl ?_
      refine op_buildSlice rfl rfl (bsl_sl_impl_Pt_1_0 rfl) rfl (by decide) (fun b2 => ?_)
      refine at_rsE (by simp only [List.nil_append, List.cons_append, List.set_cons_zero, List.set_cons_succ, Value.cells, List.toList_toArray]; rfl) ?_
      refine at_op rfl ?_
      refine op_appendR (k := 0) rfl tyl_sl_impl_Pt tyz_impl_Pt (by decide) rfl (by decide) rfl rfl rfl (fun w' hs => src_cel hs (k := 1) rfl rfl) (by simp [Value.oneCell']) (by unfold maxLen; omega) (by omega) (Nat.zero_le _) (fun r1 => ?_)
      refine at_rsE (by simp only [List.nil_append, List.cons_append, List.set_cons_zero, List.set_cons_succ, Value.cells, List.toList_toArray]; rfl) ?_
      refine at_q rfl rfl (by decide) (qt_assign rfl rfl) ?_
      refine at_end ?_
      refine at_seq ?_
      refine at_region ?_
      refine at_q rfl rfl (by decide) (qt_move rfl rfl) ?_
      refine at_q rfl rfl (by decide) (qt_move rfl rfl) ?_
      refine at_q rfl rfl (by decide) (qt_move rfl rfl) ?_
      refine at_q rfl rfl (by decide) ((qt_sliceL rfl rfl rfl tyl_sl_impl_Pt (by omega)).as (slicedL (b := b) (o := o) (l := j) (h := n) (m := c) (s := 2) hc (by omega))) ?_
      refine at_q rfl rfl (by decide) (qt_move rfl rfl) ?_
      refine at_op rfl ?_
      refine op_call ok_spec_l15Thin (v := fun x => .slice x.1 _ x.2) (r := fun x => rowR 0 24 2 _ _ x) (H := fun _ => True) rfl rfl rfl (by decide) (fun w1 hs => newRow' (ih b _ (n - j) (c - j) (xs.drop j) w1 (by omega) (ptsDrop (h.over hs.fin) (by omega) hc) (hx.drop _) (by omega) (by omega))) ?_
      rintro ⟨qA, qc⟩ -
      refine at_rsE (by simp only [List.nil_append, List.cons_append, List.set_cons_zero, List.set_cons_succ, Value.cells, List.toList_toArray]; rfl) ?_
      refine at_op rfl ?_
      refine op_appendR (k := 0) rfl tyl_sl_impl_Pt tyz_impl_Pt (by decide) rfl (by decide) rfl rfl rfl (fun w' hs => src_row hs (k := 2) rfl) (ptCells_one _) (by unfold maxLen; omega) (by omega) (Nat.zero_le _) (fun r2 => ?_)
      refine at_rsE (by simp only [List.nil_append, List.cons_append, List.set_cons_zero, List.set_cons_succ, Value.cells, List.toList_toArray]; rfl) ?_
      refine at_q rfl rfl (by decide) (qt_assign rfl rfl) ?_
      refine at_end ?_
      refine at_retc ?_
      refine at_ret1 rfl (.tmp rfl) ?_
      intro w' hs
      have hr := hs.all 0 _ rfl
      exact ⟨_, rfl, by rw [et, ec]; exact rowUp hr.1 (fun b hb => (hr.2.1 b hb).elim id (fun h => by cases h)), hs.fin⟩

theorem thinPath_any (m : Nat) : ∀ (b o n c : Nat) (xs : List (Int × Int)) (r : Int) (w : World), n ≤ m → Pts w (some ⟨b, o, none⟩) n xs → okPath xs → 2 ≤ n → n ≤ c → (0 ≤ r ∧ r ≤ 262144) →
    Calls Try.prog 82 #[.slice (some ⟨b, o, none⟩) n c, .int .i64 r] w fun e w' => ∃ v, e = .returned v ∧ w'.ownsRow w.heap.size 24 2 v (thin r xs).length ((thin r xs).flatMap ptCells) ∧ Over w w' := by
  induction m with
  | zero => intro b o n c xs r w hm h hx h2; exact absurd h2 (by omega)
  | succ m ih => intro b o n c xs r w hm h hx h2 hc hr; exact thinPath_step w h hx h2 hc hr fun b o n' c xs w hn' h hx h2 hc => ih b o n' c xs r w (by omega) h hx h2 hc hr
theorem l15Thin_any (m : Nat) : ∀ (b o n c : Nat) (xs : List (Int × Int)) (r : Int) (w : World), n ≤ m → Pts w (some ⟨b, o, none⟩) n xs → okPath xs → 2 ≤ n → n ≤ c → (0 ≤ r ∧ r ≤ 262144) →
    Calls Try.prog 79 #[.slice (some ⟨b, o, none⟩) n c, .int .i64 r] w fun e w' => ∃ v, e = .returned v ∧ w'.ownsRow w.heap.size 24 2 v (thin r xs).length ((thin r xs).flatMap ptCells) ∧ Over w w' := by
  induction m with
  | zero => intro b o n c xs r w hm h hx h2; exact absurd h2 (by omega)
  | succ m ih => intro b o n c xs r w hm h hx h2 hc hr; exact l15Thin_step w h hx h2 hc hr fun b o n' c xs w hn' h hx h2 hc => ih b o n' c xs r w (by omega) h hx h2 hc hr
section
variable {n : Nat} {env : List (Nat × Value)} {w0 : Bs} {Rs : List Res} {K : Act → World → Prop}
/-- A slice with its elements given, as a row. -/
theorem at_rowM (k s m : Nat) (hX : w0.X = []) {b U : Nat} {cs : List Value} (hk : Rs[k]? = some (.cel b U cs)) (hl : cs.length = m * s) (hm : m ≤ maxLen) (h : At n env w0 (Rs.set k (.row w0.N U s (.slice (some ⟨b, 0, none⟩) m m) m cs)) K) : At n env w0 Rs K := fun a w hf hs => by
  have hlow : w0.N ≤ b := ((hs.all k _ hk).2.1 b rfl).elim id (fun h => by rw [hX] at h; cases h)
  refine h a w hf (hs.chg hk (fun hP => ?_) (fun c hc => ?_) rfl)
  · exact ⟨hl, .inr ⟨b, m, cs.toArray, rfl, hlow, hP, Nat.le_refl _, hm, by simp [hl], by simp [← hl]⟩⟩
  · have : some b = some c := hc
    injection this with this
    exact this.symm
end
theorem rowOwn2 {w w' : World} {Rs : List Res} (hs : St ⟨w, []⟩ Rs w') {k B T n : Nat} {x : Option Addr × Nat} {xs : List (Int × Int)} (hk : Rs[k]? = some (rowR B T 2 n (xs.flatMap ptCells) x)) (hn : xs.length = n) : OwnP w.heap.size w'.heap.size w' x.1 n xs := by
  have hr := hs.all k _ hk
  have h := ownP_row (x := x) hr.1 hn
  refine ⟨h.1, fun h0 => ?_⟩
  obtain ⟨b, o, T', cs, e, _, _, hh, hc⟩ := h.2 h0
  refine ⟨b, o, T', cs, e, ?_, lt_of_some hh, hh, hc⟩
  exact (hr.2.1 b (by show Value.ownBlock (.slice x.1 n x.2) = some b; rw [e]; rfl)).elim id (fun h => by cases h)
/-- The path around a ring; the ring with fewer points; the code. -/
def pathR (xs : List (Int × Int)) : List (Int × Int) := xs ++ [pt xs 0]
def thB (xs : List (Int × Int)) (r : Int) : Bool := ringB xs && decide (1 ≤ r) && decide (r ≤ 262144)
def thR (xs : List (Int × Int)) (r : Int) : List (Int × Int) := if thB xs r = true then pt xs 0 :: thin r (pathR xs) else []
def thC (xs : List (Int × Int)) (r : Int) : Int := if ringB xs = true then (if 1 ≤ r ∧ r ≤ 262144 then 0 else 2) else 1
theorem th_no {xs : List (Int × Int)} {r : Int} (h : ringB xs = false) : thR xs r = [] ∧ thC xs r = 1 := by simp [thR, thC, thB, h]
theorem th_bad {xs : List (Int × Int)} {r : Int} (h : ringB xs = true) (h0 : ¬ (1 ≤ r ∧ r ≤ 262144)) : thR xs r = [] ∧ thC xs r = 2 := by
  rw [thR, thC, if_pos h, if_neg h0, if_neg]
  · exact ⟨rfl, rfl⟩
  · simp only [thB, Bool.and_eq_true, decide_eq_true_eq]; exact fun hh => h0 ⟨hh.1.2, hh.2⟩
theorem th_some {xs : List (Int × Int)} {r : Int} (h : ringB xs = true) (h0 : 1 ≤ r ∧ r ≤ 262144) : thR xs r = pt xs 0 :: thin r (pathR xs) ∧ thC xs r = 0 := by
  rw [thR, thC, if_pos h, if_pos h0, if_pos]
  · exact ⟨rfl, rfl⟩
  · simp only [thB, Bool.and_eq_true, decide_eq_true_eq]; exact ⟨⟨h, h0.1⟩, h0.2⟩
theorem pathR_len (xs : List (Int × Int)) : (pathR xs).length = xs.length + 1 := by simp [pathR]
theorem pathR_cells (xs : List (Int × Int)) : (pathR xs).flatMap ptCells = xs.flatMap ptCells ++ [.int .i64 (px xs 0), .int .i64 (py xs 0)] := by
  rw [pathR, List.flatMap_append]
  rfl
theorem pathR_ok {xs : List (Int × Int)} (h : ringB xs = true) : okPath (pathR xs) := by
  have h1 := okPts.of h
  have h2 := pos_of_ring h
  refine ⟨by rw [pathR_len]; have := h1.1; omega, fun p hp => ?_⟩
  rcases List.mem_append.1 hp with hp | hp
  · exact h1.2 p hp
  · rw [List.mem_singleton.1 hp]; exact h1.at_ h2.1
theorem th_cells {xs : List (Int × Int)} {r : Int} : (pt xs 0 :: thin r (pathR xs)).flatMap ptCells = [.int .i64 (px xs 0), .int .i64 (py xs 0)] ++ (thin r (pathR xs)).flatMap ptCells := by
  rw [List.flatMap_cons]
  rfl
theorem isTolerance_any (r : Int) (w : World) : Calls Try.prog 80 #[.int .i64 r] w fun e w' => e = .returned (.bool (decide (1 ≤ r ∧ r ≤ 262144))) ∧ Over w w' := by
  refine walk_from (m := 9) (Try.func80) rfl rfl (Nat.le_of_ble_eq_true rfl) ?_
  refine at_seq ?_
  refine at_region ?_
  refine at_q rfl rfl (by decide) (qt_assign rfl rfl) ?_
  refine at_end ?_
  refine at_seq ?_
  refine at_region ?_
  refine at_q rfl rfl (by decide) (qt_move rfl rfl) ?_
  refine at_q rfl rfl (by decide) (qt_geq rfl rfl rfl) ?_
  refine at_q rfl rfl (by decide) (qt_move rfl rfl) ?_
  refine at_bsplit 5 rfl (fun g1 => ?_) (fun g1 => ?_)
  · try simp only [decide_eq_true_eq, decide_eq_false_iff_not, beq_iff_eq, beq_eq_false_iff_ne, Bool.not_eq_true', Bool.not_eq_false', Bool.not_true, Bool.not_false, Int.not_lt, Int.not_le, ne_eq, Nat.not_lt, Nat.not_le] at g1
    refine at_on rfl rfl rfl rfl ?_
    refine op_q rfl (by decide) (qt_move rfl rfl) ?_
    refine at_on rfl rfl rfl rfl ?_
    refine op_q rfl (by decide) (qt_leq rfl rfl rfl) ?_
    refine at_q rfl rfl (by decide) (qt_pickT rfl rfl rfl) ?_
    refine at_q rfl rfl (by decide) (qt_assign rfl rfl) ?_
    refine at_end ?_
    refine at_retc ?_
    refine at_ret1 rfl (.tmp rfl) ?_
    intro w' hs
    exact ⟨congrArg Ending.returned (congrArg Value.bool (Bool.eq_iff_iff.2 (by simp; omega))), hs.fin⟩
  · try simp only [decide_eq_true_eq, decide_eq_false_iff_not, beq_iff_eq, beq_eq_false_iff_ne, Bool.not_eq_true', Bool.not_eq_false', Bool.not_true, Bool.not_false, Int.not_lt, Int.not_le, ne_eq, Nat.not_lt, Nat.not_le] at g1
    refine at_off rfl rfl rfl rfl (by decide) rfl (by decide) ?_
    refine at_off rfl rfl rfl rfl (by decide) rfl (by decide) ?_
    refine at_q rfl rfl (by decide) (qt_pickF rfl rfl rfl) ?_
    refine at_q rfl rfl (by decide) (qt_assign rfl rfl) ?_
    refine at_end ?_
    refine at_retc ?_
    refine at_ret1 rfl (.tmp rfl) ?_
    intro w' hs
    exact ⟨congrArg Ending.returned (congrArg Value.bool (Bool.eq_iff_iff.2 (by simp; omega))), hs.fin⟩
theorem l09Tolerance_any (r : Int) (w : World) : Calls Try.prog 78 #[.int .i64 r] w fun e w' => e = .returned (.bool (decide (1 ≤ r ∧ r ≤ 262144))) ∧ Over w w' := by
  refine walk_from (m := 5) (Try.func78) rfl rfl (Nat.le_of_ble_eq_true rfl) ?_
  refine at_seq ?_
  refine at_region ?_
  refine at_q rfl rfl (by decide) (qt_assign rfl rfl) ?_
  refine at_end ?_
  refine at_seq ?_
  refine at_region ?_
  refine at_q rfl rfl (by decide) (qt_move rfl rfl) ?_
  refine at_q rfl rfl (by decide) (qt_call ok_spec_l00In rfl rfl (fun w h => Calls.still (l00In_any _ _ _ w))) ?_
  refine at_q rfl rfl (by decide) (qt_assign rfl rfl) ?_
  refine at_end ?_
  refine at_retc ?_
  refine at_ret1 rfl (.tmp rfl) ?_
  intro w' hs
  exact ⟨congrArg Ending.returned (congrArg Value.bool (Bool.eq_iff_iff.2 (by simp [inB]))), hs.fin⟩
theorem ThinRing_any (A : Option Addr) (n c : Nat) (xs : List (Int × Int)) (r : Int) (w : World) (h : Pts w A n xs) (hn : (n : Int) ≤ 1048577) :
    Calls Try.prog 32 #[ringV A n c, .int .i64 r] w fun e w' => ∃ A' c', e = .returned (.tuple #[ringV A' (thR xs r).length c', .int .i64 (thC xs r)]) ∧ OwnP w.heap.size w'.heap.size w' A' (thR xs r).length (thR xs r) ∧ Over w w' := by
  have hl := h.1
  refine walk_from (m := 34) (Try.func32) rfl rfl (Nat.le_of_ble_eq_true rfl) ?_
  refine at_seq ?_
  refine at_region ?_
  refine at_op rfl ?_
  refine op_box rfl rfl (rfl) rfl (by decide) (fun b1 => ?_)
  refine at_rsE (by simp only [List.nil_append, List.cons_append, List.set_cons_zero, List.set_cons_succ, Value.cells, List.toList_toArray]; rfl) ?_
  refine at_op rfl ?_
  refine op_alloc rfl tyz_impl_Ring rfl (by decide) (fun b2 => ?_)
  refine at_rsE (by simp only [List.nil_append, List.cons_append, List.set_cons_zero, List.set_cons_succ, Value.cells, List.toList_toArray]; rfl) ?_
  refine at_q rfl rfl (by decide) (qt_assign rfl rfl) ?_
  refine at_end ?_
  refine at_seq ?_
  refine at_seq ?_
  refine at_region ?_
  refine at_q rfl rfl (by decide) (qt_loadS rfl rfl tys_impl_Ring rfl (rdAll (k := 0) rfl)) ?_
  refine at_q rfl rfl (by decide) (qt_call ok_impl_ValidRing rfl rfl (fun w1 hs => ValidRing_any A n c xs w1 (h.over hs.fin) hn)) ?_
  refine at_q rfl rfl (by decide) (qt_not rfl rfl) ?_
  refine at_end ?_
  refine at_cond rfl (fun c1 => ?_) (fun c1 => ?_)
  · try simp only [decide_eq_true_eq, decide_eq_false_iff_not, beq_iff_eq, beq_eq_false_iff_ne, Bool.not_eq_true', Bool.not_eq_false', Bool.not_true, Bool.not_false, Int.not_lt, Int.not_le, ne_eq, Nat.not_lt, Nat.not_le] at c1
    refine at_seq ?_
    refine at_region ?_
    refine at_q rfl rfl (by decide) (qt_build rfl rfl (bld_impl_Ring_)) ?_
    refine at_op rfl ?_
    refine op_storeAll' (k := 1) rfl rfl rfl rfl (rfl) (by rfl) tyz_impl_Ring.szx rfl rfl rfl ?_
    refine at_rsE (by simp only [List.nil_append, List.cons_append, List.set_cons_zero, List.set_cons_succ, Value.cells, List.toList_toArray]; rfl) ?_
    refine at_q rfl rfl (by decide) (qt_assign rfl rfl) ?_
    refine at_end ?_
    refine at_retc ?_
    refine then_ret ?_
    refine at_ret2 rfl (rvCelS (k := 1) rfl tys_impl_Ring rfl rfl) (.tmp rfl) ?_
    intro w' hs
    obtain ⟨e1, e2⟩ := th_no (r := r) c1
    exact ⟨none, 0, by rw [e1, e2]; rfl, by rw [e1]; exact OwnP.nil none, hs.fin⟩
  · try simp only [decide_eq_true_eq, decide_eq_false_iff_not, beq_iff_eq, beq_eq_false_iff_ne, Bool.not_eq_true', Bool.not_eq_false', Bool.not_true, Bool.not_false, Int.not_lt, Int.not_le, ne_eq, Nat.not_lt, Nat.not_le] at c1
    have hr : ringB xs = true := by simpa using c1
    have hp := pos_of_ring hr
    obtain ⟨b0, o0, rfl, _⟩ := h.2 (by omega)
    refine at_skip ?_
    refine norm_then ?_
    refine at_seq ?_
    refine at_seq ?_
    refine at_region ?_
    refine at_q rfl rfl (by decide) (qt_move rfl rfl) ?_
    refine at_q rfl rfl (by decide) (qt_call ok_impl_isTolerance rfl rfl (fun w1 hs => isTolerance_any r w1)) ?_
    refine at_q rfl rfl (by decide) (qt_not rfl rfl) ?_
    refine at_end ?_
    refine at_cond rfl (fun c2 => ?_) (fun c2 => ?_)
    · try simp only [decide_eq_true_eq, decide_eq_false_iff_not, beq_iff_eq, beq_eq_false_iff_ne, Bool.not_eq_true', Bool.not_eq_false', Bool.not_true, Bool.not_false, Int.not_lt, Int.not_le, ne_eq, Nat.not_lt, Nat.not_le] at c2
      refine at_seq ?_
      refine at_region ?_
      refine at_q rfl rfl (by decide) (qt_build rfl rfl (bld_impl_Ring_)) ?_
      refine at_op rfl ?_
      refine op_storeAll' (k := 1) rfl rfl rfl rfl (rfl) (by rfl) tyz_impl_Ring.szx rfl rfl rfl ?_
      refine at_rsE (by simp only [List.nil_append, List.cons_append, List.set_cons_zero, List.set_cons_succ, Value.cells, List.toList_toArray]; rfl) ?_
      refine at_q rfl rfl (by decide) (qt_assign rfl rfl) ?_
      refine at_end ?_
      refine at_retc ?_
      refine then_ret ?_
      refine at_ret2 rfl (rvCelS (k := 1) rfl tys_impl_Ring rfl rfl) (.tmp rfl) ?_
      intro w' hs
      obtain ⟨e1, e2⟩ := th_bad hr (by simpa using c2)
      exact ⟨none, 0, by rw [e1, e2]; rfl, by rw [e1]; exact OwnP.nil none, hs.fin⟩
    · try simp only [decide_eq_true_eq, decide_eq_false_iff_not, beq_iff_eq, beq_eq_false_iff_ne, Bool.not_eq_true', Bool.not_eq_false', Bool.not_true, Bool.not_false, Int.not_lt, Int.not_le, ne_eq, Nat.not_lt, Nat.not_le] at c2
      have hb : 1 ≤ r ∧ r ≤ 262144 := by simpa using c2
      have htl := thin_len r _ (pathR xs) (Nat.le_refl _)
      rw [pathR_len] at htl
      have hpok := pathR_ok hr
      refine at_skip ?_
      refine norm_then ?_
      refine at_seq ?_
      refine dg_start mixed rfl ?_
      refine dg_phase 8 ?_
      refine dg_q (i := 0) rfl (by kernel_rfl) (by kernel_rfl) (by kernel_rfl) [1, 2] (by kernel_rfl) (fun _ _ _ h => h) rfl rfl (by decide) (fun _ h => h.upto ⟨rfl, rfl, trivial⟩) (qt_fieldAddr rfl rfl tyf_impl_Ring_0) ?_
      refine dg_q (i := 1) rfl (by kernel_rfl) (by kernel_rfl) (by kernel_rfl) [2] (by kernel_rfl) (fun _ _ _ h => h) rfl rfl (by decide) (fun _ h => h.upto ⟨rfl, rfl, trivial⟩) (qt_load1 rfl rfl ty1_sl_impl_Pt (rd1 (k := 0) rfl rfl)) ?_
      refine dg_q (i := 3) rfl (by kernel_rfl) (by kernel_rfl) (by kernel_rfl) [4, 5, 6, 7] (by kernel_rfl) (fun _ _ _ h => h) rfl rfl (by decide) (fun _ h => h.upto ⟨rfl, rfl, trivial⟩) (qt_fieldAddr rfl rfl tyf_impl_Ring_0) ?_
      refine dg_q (i := 4) rfl (by kernel_rfl) (by kernel_rfl) (by kernel_rfl) [5, 6, 7] (by kernel_rfl) (fun _ _ _ h => h) rfl rfl (by decide) (fun _ h => h.upto ⟨rfl, rfl, trivial⟩) (qt_load1 rfl rfl ty1_sl_impl_Pt (rd1 (k := 0) rfl rfl)) ?_
      refine dg_q (i := 5) rfl (by kernel_rfl) (by kernel_rfl) (by kernel_rfl) [6, 7] (by kernel_rfl) (fun _ _ _ h => h) rfl rfl (by decide) (fun _ h => h.upto ⟨rfl, rfl, trivial⟩) (qt_index (j := 0) rfl rfl rfl tyl_sl_impl_Pt (by omega)) ?_
      refine dg_q (i := 6) rfl (by kernel_rfl) (by kernel_rfl) (by kernel_rfl) [7] (by kernel_rfl) (fun _ _ _ h => h) rfl rfl (by decide) (fun _ h => h.upto ⟨rfl, rfl, trivial⟩) (qt_loadS rfl rfl tys_impl_Pt rfl (rdPts h (by omega))) ?_
      refine dg_two (i := 2) (j := 7) rfl rfl (by decide) (by decide) (by kernel_rfl) rfl rfl ?_ ?_
      · refine op_call ok_slices_Clone_sl_impl_Pt_impl_Pt (v := fun x => .slice x.1 _ x.2) (r := fun x => rowR 0 24 2 _ _ x) (H := fun _ => True) rfl rfl rfl (by decide) (fun w1 hs => newRow' (ClonePt_any _ _ c xs w1 (h.over hs.fin) (by omega) (by omega))) ?_
        rintro ⟨pA, pc⟩ -
        refine at_rsE (by simp only [List.nil_append, List.cons_append, List.set_cons_zero, List.set_cons_succ, Value.cells, List.toList_toArray]; rfl) ?_
        refine dr_keep (fun _ h => h.upto ⟨rfl, rfl, trivial⟩) ?_
        refine dg_one (i := 7) rfl (by decide) (by kernel_rfl) rfl ?_
        refine op_buildSlice rfl rfl (bsl_sl_impl_Pt_1_0 rfl) rfl (by decide) (fun b3 => ?_)
        refine at_rsE (by simp only [List.nil_append, List.cons_append, List.set_cons_zero, List.set_cons_succ, Value.cells, List.toList_toArray]; rfl) ?_
        refine dr_keep (fun _ h => h.upto ⟨rfl, rfl, trivial⟩) ?_
        refine dg_bar rfl (by kernel_rfl) rfl ?_
        refine op_appendR (k := 2) rfl tyl_sl_impl_Pt tyz_impl_Pt (by decide) rfl (by decide) rfl rfl rfl (fun w' hs => src_cel hs (k := 3) rfl rfl) (by simp [Value.oneCell']) (by unfold maxLen; omega) (by omega) (Nat.zero_le _) (fun r1 => ?_)
        refine at_rsE (by simp only [List.nil_append, List.cons_append, List.set_cons_zero, List.set_cons_succ, Value.cells, List.toList_toArray]; rfl) ?_
        refine dg_phase 10 ?_
        refine dg_q (i := 9) rfl (by kernel_rfl) (by kernel_rfl) (by kernel_rfl) [] (by kernel_rfl) (fun _ _ _ h => h) rfl rfl (by decide) (fun _ h => h.upto ⟨rfl, rfl, rfl, rfl, trivial⟩) (qt_assign rfl rfl) ?_
        refine dg_done (by kernel_rfl) ?_
        refine at_fact (fun w hs => rowSome (k := 2) rfl hs (by omega)) ?_
        rintro ⟨eg, heg⟩
        rw [heg, ← pathR_cells]
        refine at_fact (fun w hs => rowCap (hs.all 2 _ rfl).1) ?_
        intro hcap
        refine norm_then ?_
        refine at_seq ?_
        refine dg_start mixed rfl ?_
        refine dg_phaseW 8 [1] ?_
        refine dg_q (i := 0) rfl (by kernel_rfl) (by kernel_rfl) (by kernel_rfl) [1, 2, 3, 4] (by kernel_rfl) (fun _ _ _ h => h) rfl rfl (by decide) (fun _ h => (h.wk [1]).upto ⟨rfl, rfl, rfl, rfl, trivial⟩) (qt_fieldAddr rfl rfl tyf_impl_Ring_0) ?_
        refine dg_q (i := 1) rfl (by kernel_rfl) (by kernel_rfl) (by kernel_rfl) [2, 3, 4] (by kernel_rfl) (fun _ _ _ h => h) rfl rfl (by decide) (fun _ h => (h.wk [1]).upto ⟨rfl, rfl, rfl, rfl, trivial⟩) (qt_load1 rfl rfl ty1_sl_impl_Pt (rd1 (k := 0) rfl rfl)) ?_
        refine dg_q (i := 2) rfl (by kernel_rfl) (by kernel_rfl) (by kernel_rfl) [3, 4] (by kernel_rfl) (fun _ _ _ h => h) rfl rfl (by decide) (fun _ h => (h.wk [1]).upto ⟨rfl, rfl, rfl, rfl, trivial⟩) (qt_index (j := 0) rfl rfl rfl tyl_sl_impl_Pt (by omega)) ?_
        refine dg_q (i := 3) rfl (by kernel_rfl) (by kernel_rfl) (by kernel_rfl) [4] (by kernel_rfl) (fun _ _ _ h => h) rfl rfl (by decide) (fun _ h => (h.wk [1]).upto ⟨rfl, rfl, rfl, rfl, trivial⟩) (qt_loadS rfl rfl tys_impl_Pt rfl (rdPts h (by omega))) ?_
        refine dg_q (i := 5) rfl (by kernel_rfl) (by kernel_rfl) (by kernel_rfl) [7] (by kernel_rfl) (fun _ _ _ h => h) rfl rfl (by decide) (fun _ h => (h.wk [1]).upto ⟨rfl, rfl, rfl, rfl, trivial⟩) (qt_move rfl rfl) ?_
        refine dg_q (i := 6) rfl (by kernel_rfl) (by kernel_rfl) (by kernel_rfl) [7] (by kernel_rfl) (fun _ _ _ h => h) rfl rfl (by decide) (fun _ h => (h.wk [1]).upto ⟨rfl, rfl, rfl, rfl, trivial⟩) (qt_move rfl rfl) ?_
        refine dg_two (i := 4) (j := 7) rfl rfl (by decide) (by decide) (by kernel_rfl) rfl rfl ?_ ?_
        · refine op_buildSlice rfl rfl (bsl_sl_impl_Pt_1_0 rfl) rfl (by decide) (fun b4 => ?_)
          refine at_rsE (by simp only [List.nil_append, List.cons_append, List.set_cons_zero, List.set_cons_succ, Value.cells, List.toList_toArray]; rfl) ?_
          refine dr_keep (fun _ h => (h.wk [1]).upto ⟨rfl, rfl, rfl, rfl, trivial⟩) ?_
          refine dg_one (i := 7) rfl (by decide) (by kernel_rfl) rfl ?_
          refine op_call ok_impl_thinPath (v := fun x => .slice x.1 _ x.2) (r := fun x => rowR 0 24 2 _ _ x) (H := fun _ => True) rfl rfl rfl (by decide) (fun w1 hs => newRow' (thinPath_any (n + 1) eg 0 (n + 1) _ (pathR xs) r w1 (by omega) (ptsRow (hs.all 2 _ rfl).1 (by rw [pathR_len, hl])) hpok (by omega) hcap (by omega))) ?_
          rintro ⟨qA, qc⟩ -
          refine at_rsE (by simp only [List.nil_append, List.cons_append, List.set_cons_zero, List.set_cons_succ, Value.cells, List.toList_toArray]; rfl) ?_
          refine dr_keep (fun _ h => (h.wk [1]).upto ⟨rfl, rfl, rfl, rfl, trivial⟩) ?_
          refine at_rowM 4 2 1 rfl rfl rfl (by unfold maxLen; omega) ?_
          refine at_rsE (by simp only [List.nil_append, List.cons_append, List.set_cons_zero, List.set_cons_succ, List.eraseIdx_cons_zero, List.eraseIdx_cons_succ, Value.cells, List.toList_toArray]; rfl) ?_
          refine dg_bar rfl (by kernel_rfl) rfl ?_
          refine op_appendR (k := 4) rfl tyl_sl_impl_Pt tyz_impl_Pt (by decide) rfl (by decide) rfl rfl rfl (fun w' hs => src_row hs (k := 5) rfl) (ptCells_one _) (by unfold maxLen; omega) (by omega) (Nat.le_refl _) (fun r2 => ?_)
          refine at_rsE (by simp only [List.nil_append, List.cons_append, List.set_cons_zero, List.set_cons_succ, Value.cells, List.toList_toArray]; rfl) ?_
          refine dg_phaseW 12 [1] ?_
          refine dg_q (i := 9) rfl (by kernel_rfl) (by kernel_rfl) (by kernel_rfl) [] (by kernel_rfl) (fun _ _ _ h => h) rfl rfl (by decide) (fun _ h => (h.wk [1]).upto ⟨rfl, rfl, rfl, rfl, rfl, rfl, trivial⟩) (qt_build rfl rfl (bld_impl_Ring_0 rfl)) ?_
          refine dg_one (i := 10) rfl (by decide) (by kernel_rfl) rfl ?_
          refine op_storeAll' (k := 1) rfl rfl rfl rfl (rfl) (by rfl) tyz_impl_Ring.szx rfl rfl rfl ?_
          refine at_rsE (by simp only [List.nil_append, List.cons_append, List.set_cons_zero, List.set_cons_succ, Value.cells, List.toList_toArray]; rfl) ?_
          refine dr_keep (fun _ h => (h.wk [1]).upto ⟨rfl, rfl, rfl, rfl, rfl, rfl, trivial⟩) ?_
          refine dg_q (i := 11) rfl (by kernel_rfl) (by kernel_rfl) (by kernel_rfl) [] (by kernel_rfl) (fun _ _ _ h => h) rfl rfl (by decide) (fun _ h => (h.wk [1]).upto ⟨rfl, rfl, rfl, rfl, rfl, rfl, trivial⟩) (qt_assign rfl rfl) ?_
          refine dg_done (by kernel_rfl) ?_
          refine norm_then ?_
          refine at_retc ?_
          refine at_ret2 rfl (rvCelS (k := 1) rfl tys_impl_Ring rfl rfl) (.tmp rfl) ?_
          intro w' hs
          obtain ⟨e1, e2⟩ := th_some hr hb
          exact ⟨_, _, by rw [e1, e2, List.length_cons, Nat.add_comm], by rw [e1]; exact rowOwn2 hs (k := 4) (by rw [th_cells, List.length_cons, Nat.add_comm]; rfl) rfl, hs.fin⟩
        · refine op_call ok_impl_thinPath (v := fun x => .slice x.1 _ x.2) (r := fun x => rowR 0 24 2 _ _ x) (H := fun _ => True) rfl rfl rfl (by decide) (fun w1 hs => newRow' (thinPath_any (n + 1) eg 0 (n + 1) _ (pathR xs) r w1 (by omega) (ptsRow (hs.all 2 _ rfl).1 (by rw [pathR_len, hl])) hpok (by omega) hcap (by omega))) ?_
          rintro ⟨qA, qc⟩ -
          refine at_rsE (by simp only [List.nil_append, List.cons_append, List.set_cons_zero, List.set_cons_succ, Value.cells, List.toList_toArray]; rfl) ?_
          refine dr_keep (fun _ h => (h.wk [1]).upto ⟨rfl, rfl, rfl, rfl, trivial⟩) ?_
          refine dg_one (i := 4) rfl (by decide) (by kernel_rfl) rfl ?_
          refine op_buildSlice rfl rfl (bsl_sl_impl_Pt_1_0 rfl) rfl (by decide) (fun b5 => ?_)
          refine at_rsE (by simp only [List.nil_append, List.cons_append, List.set_cons_zero, List.set_cons_succ, Value.cells, List.toList_toArray]; rfl) ?_
          refine dr_keep (fun _ h => (h.wk [1]).upto ⟨rfl, rfl, rfl, rfl, trivial⟩) ?_
          refine at_rowM 5 2 1 rfl rfl rfl (by unfold maxLen; omega) ?_
          refine at_rsE (by simp only [List.nil_append, List.cons_append, List.set_cons_zero, List.set_cons_succ, List.eraseIdx_cons_zero, List.eraseIdx_cons_succ, Value.cells, List.toList_toArray]; rfl) ?_
          refine dg_bar rfl (by kernel_rfl) rfl ?_
          refine op_appendR (k := 5) rfl tyl_sl_impl_Pt tyz_impl_Pt (by decide) rfl (by decide) rfl rfl rfl (fun w' hs => src_row hs (k := 4) rfl) (ptCells_one _) (by unfold maxLen; omega) (by omega) (Nat.le_refl _) (fun r3 => ?_)
          refine at_rsE (by simp only [List.nil_append, List.cons_append, List.set_cons_zero, List.set_cons_succ, Value.cells, List.toList_toArray]; rfl) ?_
          refine dg_phaseW 12 [1] ?_
          refine dg_q (i := 9) rfl (by kernel_rfl) (by kernel_rfl) (by kernel_rfl) [] (by kernel_rfl) (fun _ _ _ h => h) rfl rfl (by decide) (fun _ h => (h.wk [1]).upto ⟨rfl, rfl, rfl, rfl, rfl, rfl, trivial⟩) (qt_build rfl rfl (bld_impl_Ring_0 rfl)) ?_
          refine dg_one (i := 10) rfl (by decide) (by kernel_rfl) rfl ?_
          refine op_storeAll' (k := 1) rfl rfl rfl rfl (rfl) (by rfl) tyz_impl_Ring.szx rfl rfl rfl ?_
          refine at_rsE (by simp only [List.nil_append, List.cons_append, List.set_cons_zero, List.set_cons_succ, Value.cells, List.toList_toArray]; rfl) ?_
          refine dr_keep (fun _ h => (h.wk [1]).upto ⟨rfl, rfl, rfl, rfl, rfl, rfl, trivial⟩) ?_
          refine dg_q (i := 11) rfl (by kernel_rfl) (by kernel_rfl) (by kernel_rfl) [] (by kernel_rfl) (fun _ _ _ h => h) rfl rfl (by decide) (fun _ h => (h.wk [1]).upto ⟨rfl, rfl, rfl, rfl, rfl, rfl, trivial⟩) (qt_assign rfl rfl) ?_
          refine dg_done (by kernel_rfl) ?_
          refine norm_then ?_
          refine at_retc ?_
          refine at_ret2 rfl (rvCelS (k := 1) rfl tys_impl_Ring rfl rfl) (.tmp rfl) ?_
          intro w' hs
          obtain ⟨e1, e2⟩ := th_some hr hb
          exact ⟨_, _, by rw [e1, e2, List.length_cons, Nat.add_comm], by rw [e1]; exact rowOwn2 hs (k := 5) (by rw [th_cells, List.length_cons, Nat.add_comm]; rfl) rfl, hs.fin⟩
      · refine op_buildSlice rfl rfl (bsl_sl_impl_Pt_1_0 rfl) rfl (by decide) (fun b6 => ?_)
        refine at_rsE (by simp only [List.nil_append, List.cons_append, List.set_cons_zero, List.set_cons_succ, Value.cells, List.toList_toArray]; rfl) ?_
        refine dr_keep (fun _ h => h.upto ⟨rfl, rfl, trivial⟩) ?_
        refine dg_one (i := 2) rfl (by decide) (by kernel_rfl) rfl ?_
        refine op_call ok_slices_Clone_sl_impl_Pt_impl_Pt (v := fun x => .slice x.1 _ x.2) (r := fun x => rowR 0 24 2 _ _ x) (H := fun _ => True) rfl rfl rfl (by decide) (fun w1 hs => newRow' (ClonePt_any _ _ c xs w1 (h.over hs.fin) (by omega) (by omega))) ?_
        rintro ⟨pA, pc⟩ -
        refine at_rsE (by simp only [List.nil_append, List.cons_append, List.set_cons_zero, List.set_cons_succ, Value.cells, List.toList_toArray]; rfl) ?_
        refine dr_keep (fun _ h => h.upto ⟨rfl, rfl, trivial⟩) ?_
        refine dg_bar rfl (by kernel_rfl) rfl ?_
        refine op_appendR (k := 3) rfl tyl_sl_impl_Pt tyz_impl_Pt (by decide) rfl (by decide) rfl rfl rfl (fun w' hs => src_cel hs (k := 2) rfl rfl) (by simp [Value.oneCell']) (by unfold maxLen; omega) (by omega) (Nat.zero_le _) (fun r4 => ?_)
        refine at_rsE (by simp only [List.nil_append, List.cons_append, List.set_cons_zero, List.set_cons_succ, Value.cells, List.toList_toArray]; rfl) ?_
        refine dg_phase 10 ?_
        refine dg_q (i := 9) rfl (by kernel_rfl) (by kernel_rfl) (by kernel_rfl) [] (by kernel_rfl) (fun _ _ _ h => h) rfl rfl (by decide) (fun _ h => h.upto ⟨rfl, rfl, rfl, rfl, trivial⟩) (qt_assign rfl rfl) ?_
        refine dg_done (by kernel_rfl) ?_
        refine at_fact (fun w hs => rowSome (k := 3) rfl hs (by omega)) ?_
        rintro ⟨eg, heg⟩
        rw [heg, ← pathR_cells]
        refine at_fact (fun w hs => rowCap (hs.all 3 _ rfl).1) ?_
        intro hcap
        refine norm_then ?_
        refine at_seq ?_
        refine dg_start mixed rfl ?_
        refine dg_phaseW 8 [1] ?_
        refine dg_q (i := 0) rfl (by kernel_rfl) (by kernel_rfl) (by kernel_rfl) [1, 2, 3, 4] (by kernel_rfl) (fun _ _ _ h => h) rfl rfl (by decide) (fun _ h => (h.wk [1]).upto ⟨rfl, rfl, rfl, rfl, trivial⟩) (qt_fieldAddr rfl rfl tyf_impl_Ring_0) ?_
        refine dg_q (i := 1) rfl (by kernel_rfl) (by kernel_rfl) (by kernel_rfl) [2, 3, 4] (by kernel_rfl) (fun _ _ _ h => h) rfl rfl (by decide) (fun _ h => (h.wk [1]).upto ⟨rfl, rfl, rfl, rfl, trivial⟩) (qt_load1 rfl rfl ty1_sl_impl_Pt (rd1 (k := 0) rfl rfl)) ?_
        refine dg_q (i := 2) rfl (by kernel_rfl) (by kernel_rfl) (by kernel_rfl) [3, 4] (by kernel_rfl) (fun _ _ _ h => h) rfl rfl (by decide) (fun _ h => (h.wk [1]).upto ⟨rfl, rfl, rfl, rfl, trivial⟩) (qt_index (j := 0) rfl rfl rfl tyl_sl_impl_Pt (by omega)) ?_
        refine dg_q (i := 3) rfl (by kernel_rfl) (by kernel_rfl) (by kernel_rfl) [4] (by kernel_rfl) (fun _ _ _ h => h) rfl rfl (by decide) (fun _ h => (h.wk [1]).upto ⟨rfl, rfl, rfl, rfl, trivial⟩) (qt_loadS rfl rfl tys_impl_Pt rfl (rdPts h (by omega))) ?_
        refine dg_q (i := 5) rfl (by kernel_rfl) (by kernel_rfl) (by kernel_rfl) [7] (by kernel_rfl) (fun _ _ _ h => h) rfl rfl (by decide) (fun _ h => (h.wk [1]).upto ⟨rfl, rfl, rfl, rfl, trivial⟩) (qt_move rfl rfl) ?_
        refine dg_q (i := 6) rfl (by kernel_rfl) (by kernel_rfl) (by kernel_rfl) [7] (by kernel_rfl) (fun _ _ _ h => h) rfl rfl (by decide) (fun _ h => (h.wk [1]).upto ⟨rfl, rfl, rfl, rfl, trivial⟩) (qt_move rfl rfl) ?_
        refine dg_two (i := 4) (j := 7) rfl rfl (by decide) (by decide) (by kernel_rfl) rfl rfl ?_ ?_
        · refine op_buildSlice rfl rfl (bsl_sl_impl_Pt_1_0 rfl) rfl (by decide) (fun b7 => ?_)
          refine at_rsE (by simp only [List.nil_append, List.cons_append, List.set_cons_zero, List.set_cons_succ, Value.cells, List.toList_toArray]; rfl) ?_
          refine dr_keep (fun _ h => (h.wk [1]).upto ⟨rfl, rfl, rfl, rfl, trivial⟩) ?_
          refine dg_one (i := 7) rfl (by decide) (by kernel_rfl) rfl ?_
          refine op_call ok_impl_thinPath (v := fun x => .slice x.1 _ x.2) (r := fun x => rowR 0 24 2 _ _ x) (H := fun _ => True) rfl rfl rfl (by decide) (fun w1 hs => newRow' (thinPath_any (n + 1) eg 0 (n + 1) _ (pathR xs) r w1 (by omega) (ptsRow (hs.all 3 _ rfl).1 (by rw [pathR_len, hl])) hpok (by omega) hcap (by omega))) ?_
          rintro ⟨qA, qc⟩ -
          refine at_rsE (by simp only [List.nil_append, List.cons_append, List.set_cons_zero, List.set_cons_succ, Value.cells, List.toList_toArray]; rfl) ?_
          refine dr_keep (fun _ h => (h.wk [1]).upto ⟨rfl, rfl, rfl, rfl, trivial⟩) ?_
          refine at_rowM 4 2 1 rfl rfl rfl (by unfold maxLen; omega) ?_
          refine at_rsE (by simp only [List.nil_append, List.cons_append, List.set_cons_zero, List.set_cons_succ, List.eraseIdx_cons_zero, List.eraseIdx_cons_succ, Value.cells, List.toList_toArray]; rfl) ?_
          refine dg_bar rfl (by kernel_rfl) rfl ?_
          refine op_appendR (k := 4) rfl tyl_sl_impl_Pt tyz_impl_Pt (by decide) rfl (by decide) rfl rfl rfl (fun w' hs => src_row hs (k := 5) rfl) (ptCells_one _) (by unfold maxLen; omega) (by omega) (Nat.le_refl _) (fun r5 => ?_)
          refine at_rsE (by simp only [List.nil_append, List.cons_append, List.set_cons_zero, List.set_cons_succ, Value.cells, List.toList_toArray]; rfl) ?_
          refine dg_phaseW 12 [1] ?_
          refine dg_q (i := 9) rfl (by kernel_rfl) (by kernel_rfl) (by kernel_rfl) [] (by kernel_rfl) (fun _ _ _ h => h) rfl rfl (by decide) (fun _ h => (h.wk [1]).upto ⟨rfl, rfl, rfl, rfl, rfl, rfl, trivial⟩) (qt_build rfl rfl (bld_impl_Ring_0 rfl)) ?_
          refine dg_one (i := 10) rfl (by decide) (by kernel_rfl) rfl ?_
          refine op_storeAll' (k := 1) rfl rfl rfl rfl (rfl) (by rfl) tyz_impl_Ring.szx rfl rfl rfl ?_
          refine at_rsE (by simp only [List.nil_append, List.cons_append, List.set_cons_zero, List.set_cons_succ, Value.cells, List.toList_toArray]; rfl) ?_
          refine dr_keep (fun _ h => (h.wk [1]).upto ⟨rfl, rfl, rfl, rfl, rfl, rfl, trivial⟩) ?_
          refine dg_q (i := 11) rfl (by kernel_rfl) (by kernel_rfl) (by kernel_rfl) [] (by kernel_rfl) (fun _ _ _ h => h) rfl rfl (by decide) (fun _ h => (h.wk [1]).upto ⟨rfl, rfl, rfl, rfl, rfl, rfl, trivial⟩) (qt_assign rfl rfl) ?_
          refine dg_done (by kernel_rfl) ?_
          refine norm_then ?_
          refine at_retc ?_
          refine at_ret2 rfl (rvCelS (k := 1) rfl tys_impl_Ring rfl rfl) (.tmp rfl) ?_
          intro w' hs
          obtain ⟨e1, e2⟩ := th_some hr hb
          exact ⟨_, _, by rw [e1, e2, List.length_cons, Nat.add_comm], by rw [e1]; exact rowOwn2 hs (k := 4) (by rw [th_cells, List.length_cons, Nat.add_comm]; rfl) rfl, hs.fin⟩
        · refine op_call ok_impl_thinPath (v := fun x => .slice x.1 _ x.2) (r := fun x => rowR 0 24 2 _ _ x) (H := fun _ => True) rfl rfl rfl (by decide) (fun w1 hs => newRow' (thinPath_any (n + 1) eg 0 (n + 1) _ (pathR xs) r w1 (by omega) (ptsRow (hs.all 3 _ rfl).1 (by rw [pathR_len, hl])) hpok (by omega) hcap (by omega))) ?_
          rintro ⟨qA, qc⟩ -
          refine at_rsE (by simp only [List.nil_append, List.cons_append, List.set_cons_zero, List.set_cons_succ, Value.cells, List.toList_toArray]; rfl) ?_
          refine dr_keep (fun _ h => (h.wk [1]).upto ⟨rfl, rfl, rfl, rfl, trivial⟩) ?_
          refine dg_one (i := 4) rfl (by decide) (by kernel_rfl) rfl ?_
          refine op_buildSlice rfl rfl (bsl_sl_impl_Pt_1_0 rfl) rfl (by decide) (fun b8 => ?_)
          refine at_rsE (by simp only [List.nil_append, List.cons_append, List.set_cons_zero, List.set_cons_succ, Value.cells, List.toList_toArray]; rfl) ?_
          refine dr_keep (fun _ h => (h.wk [1]).upto ⟨rfl, rfl, rfl, rfl, trivial⟩) ?_
          refine at_rowM 5 2 1 rfl rfl rfl (by unfold maxLen; omega) ?_
          refine at_rsE (by simp only [List.nil_append, List.cons_append, List.set_cons_zero, List.set_cons_succ, List.eraseIdx_cons_zero, List.eraseIdx_cons_succ, Value.cells, List.toList_toArray]; rfl) ?_
          refine dg_bar rfl (by kernel_rfl) rfl ?_
          refine op_appendR (k := 5) rfl tyl_sl_impl_Pt tyz_impl_Pt (by decide) rfl (by decide) rfl rfl rfl (fun w' hs => src_row hs (k := 4) rfl) (ptCells_one _) (by unfold maxLen; omega) (by omega) (Nat.le_refl _) (fun r6 => ?_)
          refine at_rsE (by simp only [List.nil_append, List.cons_append, List.set_cons_zero, List.set_cons_succ, Value.cells, List.toList_toArray]; rfl) ?_
          refine dg_phaseW 12 [1] ?_
          refine dg_q (i := 9) rfl (by kernel_rfl) (by kernel_rfl) (by kernel_rfl) [] (by kernel_rfl) (fun _ _ _ h => h) rfl rfl (by decide) (fun _ h => (h.wk [1]).upto ⟨rfl, rfl, rfl, rfl, rfl, rfl, trivial⟩) (qt_build rfl rfl (bld_impl_Ring_0 rfl)) ?_
          refine dg_one (i := 10) rfl (by decide) (by kernel_rfl) rfl ?_
          refine op_storeAll' (k := 1) rfl rfl rfl rfl (rfl) (by rfl) tyz_impl_Ring.szx rfl rfl rfl ?_
          refine at_rsE (by simp only [List.nil_append, List.cons_append, List.set_cons_zero, List.set_cons_succ, Value.cells, List.toList_toArray]; rfl) ?_
          refine dr_keep (fun _ h => (h.wk [1]).upto ⟨rfl, rfl, rfl, rfl, rfl, rfl, trivial⟩) ?_
          refine dg_q (i := 11) rfl (by kernel_rfl) (by kernel_rfl) (by kernel_rfl) [] (by kernel_rfl) (fun _ _ _ h => h) rfl rfl (by decide) (fun _ h => (h.wk [1]).upto ⟨rfl, rfl, rfl, rfl, rfl, rfl, trivial⟩) (qt_assign rfl rfl) ?_
          refine dg_done (by kernel_rfl) ?_
          refine norm_then ?_
          refine at_retc ?_
          refine at_ret2 rfl (rvCelS (k := 1) rfl tys_impl_Ring rfl rfl) (.tmp rfl) ?_
          intro w' hs
          obtain ⟨e1, e2⟩ := th_some hr hb
          exact ⟨_, _, by rw [e1, e2, List.length_cons, Nat.add_comm], by rw [e1]; exact rowOwn2 hs (k := 5) (by rw [th_cells, List.length_cons, Nat.add_comm]; rfl) rfl, hs.fin⟩
theorem specThinRing_any (A : Option Addr) (n c : Nat) (xs : List (Int × Int)) (r : Int) (w : World) (h : Pts w A n xs) (hn : (n : Int) ≤ 1048577) :
    Calls Try.prog 31 #[ringV A n c, .int .i64 r] w fun e w' => ∃ A' c', e = .returned (.tuple #[ringV A' (thR xs r).length c', .int .i64 (thC xs r)]) ∧ OwnP w.heap.size w'.heap.size w' A' (thR xs r).length (thR xs r) ∧ Over w w' := by
  have hl := h.1
  refine walk_from (m := 37) (Try.func31) rfl rfl (Nat.le_of_ble_eq_true rfl) ?_
  refine at_seq ?_
  refine at_region ?_
  refine at_op rfl ?_
  refine op_box rfl rfl (rfl) rfl (by decide) (fun b1 => ?_)
  refine at_rsE (by simp only [List.nil_append, List.cons_append, List.set_cons_zero, List.set_cons_succ, Value.cells, List.toList_toArray]; rfl) ?_
  refine at_op rfl ?_
  refine op_alloc rfl tyz_impl_Ring rfl (by decide) (fun b2 => ?_)
  refine at_rsE (by simp only [List.nil_append, List.cons_append, List.set_cons_zero, List.set_cons_succ, Value.cells, List.toList_toArray]; rfl) ?_
  refine at_q rfl rfl (by decide) (qt_assign rfl rfl) ?_
  refine at_end ?_
  refine at_seq ?_
  refine at_seq ?_
  refine at_region ?_
  refine at_q rfl rfl (by decide) (qt_call ok_spec_l13Ring rfl rfl (fun w1 hs => l13Ring_any _ _ A n c xs w1 (rd1 (k := 0) rfl rfl w1 hs) (h.over hs.fin) hn)) ?_
  refine at_q rfl rfl (by decide) (qt_not rfl rfl) ?_
  refine at_end ?_
  refine at_cond rfl (fun c1 => ?_) (fun c1 => ?_)
  · try simp only [decide_eq_true_eq, decide_eq_false_iff_not, beq_iff_eq, beq_eq_false_iff_ne, Bool.not_eq_true', Bool.not_eq_false', Bool.not_true, Bool.not_false, Int.not_lt, Int.not_le, ne_eq, Nat.not_lt, Nat.not_le] at c1
    refine at_seq ?_
    refine at_region ?_
    refine at_q rfl rfl (by decide) (qt_build rfl rfl (bld_impl_Ring_)) ?_
    refine at_op rfl ?_
    refine op_storeAll' (k := 1) rfl rfl rfl rfl (rfl) (by rfl) tyz_impl_Ring.szx rfl rfl rfl ?_
    refine at_rsE (by simp only [List.nil_append, List.cons_append, List.set_cons_zero, List.set_cons_succ, Value.cells, List.toList_toArray]; rfl) ?_
    refine at_q rfl rfl (by decide) (qt_assign rfl rfl) ?_
    refine at_end ?_
    refine at_retc ?_
    refine then_ret ?_
    refine at_ret2 rfl (rvCelS (k := 1) rfl tys_impl_Ring rfl rfl) (.tmp rfl) ?_
    intro w' hs
    obtain ⟨e1, e2⟩ := th_no (r := r) c1
    exact ⟨none, 0, by rw [e1, e2]; rfl, by rw [e1]; exact OwnP.nil none, hs.fin⟩
  · try simp only [decide_eq_true_eq, decide_eq_false_iff_not, beq_iff_eq, beq_eq_false_iff_ne, Bool.not_eq_true', Bool.not_eq_false', Bool.not_true, Bool.not_false, Int.not_lt, Int.not_le, ne_eq, Nat.not_lt, Nat.not_le] at c1
    have hr : ringB xs = true := by simpa using c1
    have hp := pos_of_ring hr
    obtain ⟨b0, o0, rfl, _⟩ := h.2 (by omega)
    refine at_skip ?_
    refine norm_then ?_
    refine at_seq ?_
    refine at_seq ?_
    refine at_region ?_
    refine at_q rfl rfl (by decide) (qt_move rfl rfl) ?_
    refine at_q rfl rfl (by decide) (qt_call ok_spec_l09Tolerance rfl rfl (fun w1 hs => l09Tolerance_any r w1)) ?_
    refine at_q rfl rfl (by decide) (qt_not rfl rfl) ?_
    refine at_end ?_
    refine at_cond rfl (fun c2 => ?_) (fun c2 => ?_)
    · try simp only [decide_eq_true_eq, decide_eq_false_iff_not, beq_iff_eq, beq_eq_false_iff_ne, Bool.not_eq_true', Bool.not_eq_false', Bool.not_true, Bool.not_false, Int.not_lt, Int.not_le, ne_eq, Nat.not_lt, Nat.not_le] at c2
      refine at_seq ?_
      refine at_region ?_
      refine at_q rfl rfl (by decide) (qt_build rfl rfl (bld_impl_Ring_)) ?_
      refine at_op rfl ?_
      refine op_storeAll' (k := 1) rfl rfl rfl rfl (rfl) (by rfl) tyz_impl_Ring.szx rfl rfl rfl ?_
      refine at_rsE (by simp only [List.nil_append, List.cons_append, List.set_cons_zero, List.set_cons_succ, Value.cells, List.toList_toArray]; rfl) ?_
      refine at_q rfl rfl (by decide) (qt_assign rfl rfl) ?_
      refine at_end ?_
      refine at_retc ?_
      refine then_ret ?_
      refine at_ret2 rfl (rvCelS (k := 1) rfl tys_impl_Ring rfl rfl) (.tmp rfl) ?_
      intro w' hs
      obtain ⟨e1, e2⟩ := th_bad hr (by simpa using c2)
      exact ⟨none, 0, by rw [e1, e2]; rfl, by rw [e1]; exact OwnP.nil none, hs.fin⟩
    · try simp only [decide_eq_true_eq, decide_eq_false_iff_not, beq_iff_eq, beq_eq_false_iff_ne, Bool.not_eq_true', Bool.not_eq_false', Bool.not_true, Bool.not_false, Int.not_lt, Int.not_le, ne_eq, Nat.not_lt, Nat.not_le] at c2
      have hb : 1 ≤ r ∧ r ≤ 262144 := by simpa using c2
      have htl := thin_len r _ (pathR xs) (Nat.le_refl _)
      rw [pathR_len] at htl
      have hpok := pathR_ok hr
      refine at_skip ?_
      refine norm_then ?_
      refine at_seq ?_
      refine at_region ?_
      refine at_op rfl ?_
      refine op_buildSlice rfl rfl (bsl_sl_impl_Pt_0) rfl (by decide) (fun b3 => ?_)
      refine at_rowN 2 2 rfl rfl ?_
      refine at_rsE (by simp only [List.nil_append, List.cons_append, List.set_cons_zero, List.set_cons_succ, Value.cells, List.toList_toArray]; rfl) ?_
      refine at_q rfl rfl (by decide) (qt_fieldAddr rfl rfl tyf_impl_Ring_0) ?_
      refine at_q rfl rfl (by decide) (qt_load1 rfl rfl ty1_sl_impl_Pt (rd1 (k := 0) rfl rfl)) ?_
      refine at_op rfl ?_
      refine op_appendR (k := 2) rfl tyl_sl_impl_Pt tyz_impl_Pt (by decide) rfl (by decide) rfl rfl rfl (fun w' hs => srcPts (h.over hs.fin) (by omega)) (ptCells_one _) (by unfold maxLen; omega) (by omega) (Nat.le_refl _) (fun r1 => ?_)
      refine at_rsE (by simp only [List.nil_append, List.cons_append, List.set_cons_zero, List.set_cons_succ, Value.cells, List.toList_toArray]; rfl) ?_
      refine at_q rfl rfl (by decide) (qt_assign rfl rfl) ?_
      refine at_end ?_
      refine at_seq ?_
      refine at_region ?_
      refine at_q rfl rfl (by decide) (qt_move rfl rfl) ?_
      refine at_q rfl rfl (by decide) (qt_fieldAddr rfl rfl tyf_impl_Ring_0) ?_
      refine at_q rfl rfl (by decide) (qt_load1 rfl rfl ty1_sl_impl_Pt (rd1 (k := 0) rfl rfl)) ?_
      refine at_q rfl rfl (by decide) (qt_index (j := 0) rfl rfl rfl tyl_sl_impl_Pt (by omega)) ?_
      refine at_q rfl rfl (by decide) (qt_loadS rfl rfl tys_impl_Pt rfl (rdPts h (by omega))) ?_
      refine at_op rfl ?_
      refine op_buildSlice rfl rfl (bsl_sl_impl_Pt_1_0 rfl) rfl (by decide) (fun b4 => ?_)
      refine at_rsE (by simp only [List.nil_append, List.cons_append, List.set_cons_zero, List.set_cons_succ, Value.cells, List.toList_toArray]; rfl) ?_
      refine at_op rfl ?_
      refine op_appendR (k := 2) rfl tyl_sl_impl_Pt tyz_impl_Pt (by decide) rfl (by decide) rfl rfl rfl (fun w' hs => src_cel hs (k := 3) rfl rfl) (by simp [Value.oneCell']) (by unfold maxLen; omega) (by omega) (Nat.le_refl _) (fun r2 => ?_)
      refine at_rsE (by simp only [List.nil_append, List.cons_append, List.set_cons_zero, List.set_cons_succ, Value.cells, List.toList_toArray]; rfl) ?_
      refine at_q rfl rfl (by decide) (qt_assign rfl rfl) ?_
      refine at_end ?_
      refine at_fact (fun w hs => rowSome (k := 2) rfl hs (by omega)) ?_
      rintro ⟨eg, heg⟩
      rw [heg, ← pathR_cells, Nat.zero_add]
      refine at_fact (fun w hs => rowCap (hs.all 2 _ rfl).1) ?_
      intro hcap
      refine at_seq ?_
      refine at_region ?_
      refine at_q rfl rfl (by decide) (qt_fieldAddr rfl rfl tyf_impl_Ring_0) ?_
      refine at_q rfl rfl (by decide) (qt_load1 rfl rfl ty1_sl_impl_Pt (rd1 (k := 0) rfl rfl)) ?_
      refine at_q rfl rfl (by decide) (qt_index (j := 0) rfl rfl rfl tyl_sl_impl_Pt (by omega)) ?_
      refine at_q rfl rfl (by decide) (qt_loadS rfl rfl tys_impl_Pt rfl (rdPts h (by omega))) ?_
      refine at_op rfl ?_
      refine op_buildSlice rfl rfl (bsl_sl_impl_Pt_1_0 rfl) rfl (by decide) (fun b5 => ?_)
      refine at_rsE (by simp only [List.nil_append, List.cons_append, List.set_cons_zero, List.set_cons_succ, Value.cells, List.toList_toArray]; rfl) ?_
      refine at_q rfl rfl (by decide) (qt_assign rfl rfl) ?_
      refine at_end ?_
      refine at_rowM 4 2 1 rfl rfl rfl (by unfold maxLen; omega) ?_
      refine at_rsE (by simp only [List.nil_append, List.cons_append, List.set_cons_zero, List.set_cons_succ, List.eraseIdx_cons_zero, List.eraseIdx_cons_succ, Value.cells, List.toList_toArray]; rfl) ?_
      refine at_seq ?_
      refine at_region ?_
      refine at_q rfl rfl (by decide) (qt_move rfl rfl) ?_
      refine at_q rfl rfl (by decide) (qt_move rfl rfl) ?_
      refine at_q rfl rfl (by decide) (qt_move rfl rfl) ?_
      refine at_op rfl ?_
      refine op_call ok_spec_l15Thin (v := fun x => .slice x.1 _ x.2) (r := fun x => rowR 0 24 2 _ _ x) (H := fun _ => True) rfl rfl rfl (by decide) (fun w1 hs => newRow' (l15Thin_any (n + 1) eg 0 (n + 1) _ (pathR xs) r w1 (by omega) (ptsRow (hs.all 2 _ rfl).1 (by rw [pathR_len, hl])) hpok (by omega) hcap (by omega))) ?_
      rintro ⟨qA, qc⟩ -
      refine at_rsE (by simp only [List.nil_append, List.cons_append, List.set_cons_zero, List.set_cons_succ, Value.cells, List.toList_toArray]; rfl) ?_
      refine at_op rfl ?_
      refine op_appendR (k := 4) rfl tyl_sl_impl_Pt tyz_impl_Pt (by decide) rfl (by decide) rfl rfl rfl (fun w' hs => src_row hs (k := 5) rfl) (ptCells_one _) (by unfold maxLen; omega) (by omega) (Nat.le_refl _) (fun r3 => ?_)
      refine at_rsE (by simp only [List.nil_append, List.cons_append, List.set_cons_zero, List.set_cons_succ, Value.cells, List.toList_toArray]; rfl) ?_
      refine at_q rfl rfl (by decide) (qt_build rfl rfl (bld_impl_Ring_0 rfl)) ?_
      refine at_op rfl ?_
      refine op_storeAll' (k := 1) rfl rfl rfl rfl (rfl) (by rfl) tyz_impl_Ring.szx rfl rfl rfl ?_
      refine at_rsE (by simp only [List.nil_append, List.cons_append, List.set_cons_zero, List.set_cons_succ, Value.cells, List.toList_toArray]; rfl) ?_
      refine at_q rfl rfl (by decide) (qt_assign rfl rfl) ?_
      refine at_end ?_
      refine at_retc ?_
      refine at_ret2 rfl (rvCelS (k := 1) rfl tys_impl_Ring rfl rfl) (.tmp rfl) ?_
      intro w' hs
      obtain ⟨e1, e2⟩ := th_some hr hb
      exact ⟨_, _, by rw [e1, e2, List.length_cons, Nat.add_comm], by rw [e1]; exact rowOwn2 hs (k := 4) (by rw [th_cells, List.length_cons, Nat.add_comm]; rfl) rfl, hs.fin⟩
end Go.Proofs.Ytnalgllmdpcjcaa
