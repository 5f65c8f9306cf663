/- Fractions and maps of points: what is computed, and both sides. -/
import Derived.Test.YtjhaakollekjeaaSt
import Derived.Test.YtjhaakollekjeaaSrc
import Derived.Test.YtjhaakollekjeaaDiv
import Derived.Test.YtjhaakollekjeaaHull
namespace Go.Proofs.Ytjhaakollekjeaa
open Go Go.RowKit
set_option linter.unusedVariables false
set_option linter.unusedSimpArgs false
set_option maxRecDepth 100000
set_option maxHeartbeats 4000000
set_option linter.unusedVariables false
set_option linter.unusedSimpArgs false

section
variable {P : Program} {n : Nat} {env : List (Nat × Value)} {w0 : Bs} {Rs : List Res} {o : Oper}
variable {x y : Operand} {T T' : TypeId} {p q : Int}
theorem qt_eqlU (ho : o.op = .binOp .eql T x y T') (hx : ev env x = some (.int .u64 p)) (hy : ev env y = some (.int .u64 q)) : Qt P o n env w0 Rs (.bool (p == q)) := qt_of fun a w hf _ => by unfold execOp; simp only [ho, hf.ev hx, hf.ev hy]; simp [go_sem]
theorem qt_neqU (ho : o.op = .binOp .neq T x y T') (hx : ev env x = some (.int .u64 p)) (hy : ev env y = some (.int .u64 q)) : Qt P o n env w0 Rs (.bool (!(p == q))) := qt_of fun a w hf _ => by
 have : (p != q) = !(p == q) := rfl
 unfold execOp; simp only [ho, hf.ev hx, hf.ev hy]; simp [binOp_neq, this, go_sem]
theorem qt_gtrU (ho : o.op = .binOp .gtr T x y T') (hx : ev env x = some (.int .u64 p)) (hy : ev env y = some (.int .u64 q)) : Qt P o n env w0 Rs (.bool (decide (q < p))) := qt_of fun a w hf _ => by unfold execOp; simp only [ho, hf.ev hx, hf.ev hy]; simp [go_sem]
theorem qt_remU {a b : Nat} (ho : o.op = .binOp .rem T x y T') (hx : ev env x = some (.int .u64 (a : Int))) (hy : ev env y = some (.int .u64 (b : Int))) (hb : 0 < b) (ha : a < 18446744073709551616) : Qt P o n env w0 Rs (.int .u64 ((a % b : Nat) : Int)) :=
 qt_of fun ac w hf _ => by
  have hq0 : ¬ (b : Int) = 0 := by omega
  have h1 : (a : Int).tmod b = ((a % b : Nat) : Int) := by rw [Int.ofNat_tmod]
  have h2 := Nat.mod_le a b
  unfold execOp; simp only [ho, hf.ev hx, hf.ev hy]; simp [go_sem, hq0, h1, u64_in ((a % b : Nat) : Int) (by omega) (by omega), show ¬ b = 0 by omega]
theorem qt_quoU {a b : Nat} (ho : o.op = .binOp .quo T x y T') (hx : ev env x = some (.int .u64 (a : Int))) (hy : ev env y = some (.int .u64 (b : Int))) (hb : 0 < b) (ha : a < 18446744073709551616) : Qt P o n env w0 Rs (.int .u64 ((a / b : Nat) : Int)) :=
 qt_of fun ac w hf _ => by
  have hq0 : ¬ (b : Int) = 0 := by omega
  have h1 : (a : Int).tdiv b = ((a / b : Nat) : Int) := by rw [Int.ofNat_tdiv]
  have h2 := Nat.div_le_self a b
  have h3 : IntKind.u64.wrap ((a : Int) / (b : Int)) = (a : Int) / (b : Int) := u64_in _ (Int.ediv_nonneg (by omega) (by omega)) (by have := Int.natCast_ediv a b; omega)
  unfold execOp; simp only [ho, hf.ev hx, hf.ev hy]; simp [go_sem, hq0, h1, h3, show ¬ b = 0 by omega]
theorem qt_negU (ho : o.op = .unOp .neg T x) (hx : ev env x = some (.int .u64 p)) : Qt P o n env w0 Rs (.int .u64 (IntKind.u64.wrap (-p))) :=
 qt_of fun a w hf _ => by unfold execOp; simp only [ho, hf.ev hx]; simp [go_sem]
theorem qt_convW {k k' : IntKind} {d : TypeDesc} (ho : o.op = .convert T T' x) (hs : P.underlying T = some d) (hd : P.underlying T' = some (.int k')) (hx : ev env x = some (.int k p)) : Qt P o n env w0 Rs (.int k' (k'.wrap p)) :=
 qt_of fun a w hf _ => by
  have h1 : (convert T T' (.int k p)).run P w = .ok (.int k' (k'.wrap p)) w := by
   unfold convert
   simp only [Sem.run_bind, run_underlying hs, run_underlying hd, Result.andThen_ok]
   simp [Conv.intToInt]
  unfold execOp; simp only [ho, hf.ev hx]; simp [go_sem, h1]
end

section
variable {P : Program} {n : Nat} {env : List (Nat × Value)} {w0 : Bs} {Rs : List Res} {o : Oper} {K : Act → World → Prop} {Q : Exit → Act → World → Prop}
theorem op_store_12_0_2 {T U : Nat} {x y : Operand} {k b : Nat} {c0 c1 c2 c3 c4 c5 c6 c7 c8 c9 c10 c11 v0 v1 v : Value} (ho : o.op = .store T x y) (hd : o.dst = none) (hx : ev env x = some (.pointer (some ⟨b, 0, none⟩))) (hy : ev env y = some v) (hv : v.cells = #[v0, v1]) (h1 : [v0, v1].all (·.oneCell') = true) (hz : (P.info? T).map (·.size) = some 2) (hk : Rs[k]? = some (.cel b U [c0, c1, c2, c3, c4, c5, c6, c7, c8, c9, c10, c11])) (h : At n env w0 (Rs.set k (.cel b U [v0, v1, c2, c3, c4, c5, c6, c7, c8, c9, c10, c11])) K) : At n env w0 Rs (fun a w => o.wp P a w K Q) := op_store (off := 0) (vs := [v0, v1]) ho hd hx hy hv h1 hz rfl hk (Nat.le_of_ble_eq_true rfl) h
theorem op_store_12_2_2 {T U : Nat} {x y : Operand} {k b : Nat} {c0 c1 c2 c3 c4 c5 c6 c7 c8 c9 c10 c11 v0 v1 v : Value} (ho : o.op = .store T x y) (hd : o.dst = none) (hx : ev env x = some (.pointer (some ⟨b, 2, none⟩))) (hy : ev env y = some v) (hv : v.cells = #[v0, v1]) (h1 : [v0, v1].all (·.oneCell') = true) (hz : (P.info? T).map (·.size) = some 2) (hk : Rs[k]? = some (.cel b U [c0, c1, c2, c3, c4, c5, c6, c7, c8, c9, c10, c11])) (h : At n env w0 (Rs.set k (.cel b U [c0, c1, v0, v1, c4, c5, c6, c7, c8, c9, c10, c11])) K) : At n env w0 Rs (fun a w => o.wp P a w K Q) := op_store (off := 2) (vs := [v0, v1]) ho hd hx hy hv h1 hz rfl hk (Nat.le_of_ble_eq_true rfl) h
theorem op_store_12_4_2 {T U : Nat} {x y : Operand} {k b : Nat} {c0 c1 c2 c3 c4 c5 c6 c7 c8 c9 c10 c11 v0 v1 v : Value} (ho : o.op = .store T x y) (hd : o.dst = none) (hx : ev env x = some (.pointer (some ⟨b, 4, none⟩))) (hy : ev env y = some v) (hv : v.cells = #[v0, v1]) (h1 : [v0, v1].all (·.oneCell') = true) (hz : (P.info? T).map (·.size) = some 2) (hk : Rs[k]? = some (.cel b U [c0, c1, c2, c3, c4, c5, c6, c7, c8, c9, c10, c11])) (h : At n env w0 (Rs.set k (.cel b U [c0, c1, c2, c3, v0, v1, c6, c7, c8, c9, c10, c11])) K) : At n env w0 Rs (fun a w => o.wp P a w K Q) := op_store (off := 4) (vs := [v0, v1]) ho hd hx hy hv h1 hz rfl hk (Nat.le_of_ble_eq_true rfl) h
theorem op_store_12_6_2 {T U : Nat} {x y : Operand} {k b : Nat} {c0 c1 c2 c3 c4 c5 c6 c7 c8 c9 c10 c11 v0 v1 v : Value} (ho : o.op = .store T x y) (hd : o.dst = none) (hx : ev env x = some (.pointer (some ⟨b, 6, none⟩))) (hy : ev env y = some v) (hv : v.cells = #[v0, v1]) (h1 : [v0, v1].all (·.oneCell') = true) (hz : (P.info? T).map (·.size) = some 2) (hk : Rs[k]? = some (.cel b U [c0, c1, c2, c3, c4, c5, c6, c7, c8, c9, c10, c11])) (h : At n env w0 (Rs.set k (.cel b U [c0, c1, c2, c3, c4, c5, v0, v1, c8, c9, c10, c11])) K) : At n env w0 Rs (fun a w => o.wp P a w K Q) := op_store (off := 6) (vs := [v0, v1]) ho hd hx hy hv h1 hz rfl hk (Nat.le_of_ble_eq_true rfl) h
theorem op_store_12_8_2 {T U : Nat} {x y : Operand} {k b : Nat} {c0 c1 c2 c3 c4 c5 c6 c7 c8 c9 c10 c11 v0 v1 v : Value} (ho : o.op = .store T x y) (hd : o.dst = none) (hx : ev env x = some (.pointer (some ⟨b, 8, none⟩))) (hy : ev env y = some v) (hv : v.cells = #[v0, v1]) (h1 : [v0, v1].all (·.oneCell') = true) (hz : (P.info? T).map (·.size) = some 2) (hk : Rs[k]? = some (.cel b U [c0, c1, c2, c3, c4, c5, c6, c7, c8, c9, c10, c11])) (h : At n env w0 (Rs.set k (.cel b U [c0, c1, c2, c3, c4, c5, c6, c7, v0, v1, c10, c11])) K) : At n env w0 Rs (fun a w => o.wp P a w K Q) := op_store (off := 8) (vs := [v0, v1]) ho hd hx hy hv h1 hz rfl hk (Nat.le_of_ble_eq_true rfl) h
theorem op_store_12_10_2 {T U : Nat} {x y : Operand} {k b : Nat} {c0 c1 c2 c3 c4 c5 c6 c7 c8 c9 c10 c11 v0 v1 v : Value} (ho : o.op = .store T x y) (hd : o.dst = none) (hx : ev env x = some (.pointer (some ⟨b, 10, none⟩))) (hy : ev env y = some v) (hv : v.cells = #[v0, v1]) (h1 : [v0, v1].all (·.oneCell') = true) (hz : (P.info? T).map (·.size) = some 2) (hk : Rs[k]? = some (.cel b U [c0, c1, c2, c3, c4, c5, c6, c7, c8, c9, c10, c11])) (h : At n env w0 (Rs.set k (.cel b U [c0, c1, c2, c3, c4, c5, c6, c7, c8, c9, v0, v1])) K) : At n env w0 Rs (fun a w => o.wp P a w K Q) := op_store (off := 10) (vs := [v0, v1]) ho hd hx hy hv h1 hz rfl hk (Nat.le_of_ble_eq_true rfl) h
end

/-! ### What is computed -/
/-- A fraction: numerator and denominator. -/
def frB (p : Pn) : Bool := decide (1 ≤ p.2 ∧ p.2 ≤ 1000000) && decide (-1000000000 ≤ p.1 ∧ p.1 ≤ 1000000000) && decide (Nat.gcd p.1.natAbs p.2.natAbs = 1)
structure FrOk (p : Pn) : Prop where
 d1 : 1 ≤ p.2
 d2 : p.2 ≤ 1000000
 n1 : -1000000000 ≤ p.1
 n2 : p.1 ≤ 1000000000
theorem fr_ok {p : Pn} (h : frB p = true) : FrOk p := by
 simp only [frB, Bool.and_eq_true, decide_eq_true_eq] at h
 exact ⟨h.1.1.1, h.1.1.2, h.1.2.1, h.1.2.2⟩
def mkA (a b : Int) : Nat := a.natAbs / Nat.gcd a.natAbs b.natAbs
def mkB (a b : Int) : Nat := b.natAbs / Nat.gcd a.natAbs b.natAbs
def mkC (a b : Int) : Int := if b = 0 then 1 else (if 1000000000 < mkA a b ∨ 1000000 < mkB a b then 2 else 0)
def mkP (a b : Int) : Pn := if mkC a b = 0 then (if decide (a < 0) = decide (b < 0) then (mkA a b : Int) else -(mkA a b : Int), (mkB a b : Int)) else (0, 0)
theorem mk_zero (a : Int) : mkC a 0 = 1 ∧ mkP a 0 = (0, 0) := by simp [mkC, mkP]
theorem mk_big {a b : Int} (hb : ¬ b = 0) (h : 1000000000 < mkA a b ∨ 1000000 < mkB a b) : mkC a b = 2 ∧ mkP a b = (0, 0) := by
 have e : mkC a b = 2 := by rw [mkC, if_neg hb, if_pos h]
 exact ⟨e, by rw [mkP, e]; rfl⟩
theorem mk_fit {a b : Int} (hb : ¬ b = 0) (h : ¬ (1000000000 < mkA a b ∨ 1000000 < mkB a b)) : mkC a b = 0 ∧ mkP a b = (if decide (a < 0) = decide (b < 0) then (mkA a b : Int) else -(mkA a b : Int), (mkB a b : Int)) := by
 have e : mkC a b = 0 := by rw [mkC, if_neg hb, if_neg h]
 exact ⟨e, by rw [mkP, e]; rfl⟩
/-- Sums and products. -/
def twoB (p q : Pn) : Bool := frB p && frB q
def adN (p q : Pn) : Int := p.1 * q.2 + q.1 * p.2
def adC (p q : Pn) : Int := if twoB p q = true then mkC (adN p q) (p.2 * q.2) else 1
def adP (p q : Pn) : Pn := if twoB p q = true then mkP (adN p q) (p.2 * q.2) else (0, 0)
def muC (p q : Pn) : Int := if twoB p q = true then mkC (p.1 * q.1) (p.2 * q.2) else 1
def muP (p q : Pn) : Pn := if twoB p q = true then mkP (p.1 * q.1) (p.2 * q.2) else (0, 0)
theorem two_ok {p q : Pn} (h : twoB p q = true) : FrOk p ∧ FrOk q := by
 simp only [twoB, Bool.and_eq_true] at h
 exact ⟨fr_ok h.1, fr_ok h.2⟩
theorem prB {x y A B : Int} (h1 : -A ≤ x) (h2 : x ≤ A) (h3 : 0 ≤ y) (h4 : y ≤ B) (hA : 0 ≤ A) : -(A * B) ≤ x * y ∧ x * y ≤ A * B := by
 have e1 := Int.mul_le_mul_of_nonneg_right h2 h3
 have e2 := Int.mul_le_mul_of_nonneg_left h4 hA
 have e3 := Int.mul_le_mul_of_nonneg_right h1 h3
 rw [Int.neg_mul] at e3
 omega
theorem ad_bd {p q : Pn} (hp : FrOk p) (hq : FrOk q) : (-1000000000000000 ≤ p.1 * q.2 ∧ p.1 * q.2 ≤ 1000000000000000) ∧ (-1000000000000000 ≤ q.1 * p.2 ∧ q.1 * p.2 ≤ 1000000000000000) ∧ (-1000000000000 ≤ p.2 * q.2 ∧ p.2 * q.2 ≤ 1000000000000) := by
 have a := hp.d1
 have b := hq.d1
 exact ⟨prB (A := 1000000000) (B := 1000000) hp.n1 hp.n2 (by omega) hq.d2 (by decide), prB (A := 1000000000) (B := 1000000) hq.n1 hq.n2 (by omega) hp.d2 (by decide), prB (A := 1000000) (B := 1000000) (by omega) hp.d2 (by omega) hq.d2 (by decide)⟩
theorem mu_bd {p q : Pn} (hp : FrOk p) (hq : FrOk q) : -1000000000000000000 ≤ p.1 * q.1 ∧ p.1 * q.1 ≤ 1000000000000000000 := by
 have := mul_bd (A := 1000000000) (B := 1000000000) hp.n1 hp.n2 hq.n1 hq.n2
 omega
/-- Rounded. -/
def rfV (p : Pn) : Int := if frB p = true then rnd p.1 p.2 else 0
/-- A map: six fractions. -/
structure Aff where
 xx : Pn
 xy : Pn
 yx : Pn
 yy : Pn
 dx : Pn
 dy : Pn
abbrev affV (m : Aff) : Value := .agg #[.int .i64 m.xx.1, .int .i64 m.xx.2, .int .i64 m.xy.1, .int .i64 m.xy.2, .int .i64 m.yx.1, .int .i64 m.yx.2, .int .i64 m.yy.1, .int .i64 m.yy.2, .int .i64 m.dx.1, .int .i64 m.dx.2, .int .i64 m.dy.1, .int .i64 m.dy.2]
def affB (m : Aff) : Bool := frB m.xx && frB m.xy && frB m.yx && frB m.yy && frB m.dx && frB m.dy
/-- The code of a coordinate; its fraction. -/
def l2C (a b c d : Pn) : Int := if muC a b = 0 then (if muC c d = 0 then adC (muP a b) (muP c d) else muC c d) else muC a b
def l2P (a b c d : Pn) : Pn := if l2C a b c d = 0 then adP (muP a b) (muP c d) else (0, 0)
def rwC (a b c : Pn) (x y : Int) : Int := if l2C a (x, 1) b (y, 1) = 0 then adC (l2P a (x, 1) b (y, 1)) c else l2C a (x, 1) b (y, 1)
def rwP (a b c : Pn) (x y : Int) : Pn := adP (l2P a (x, 1) b (y, 1)) c
def apP (m : Aff) (p : Pn) : Pn := (rfV (rwP m.xx m.xy m.dx p.1 p.2), rfV (rwP m.yx m.yy m.dy p.1 p.2))
/-- The code of both rows; the code and the point of the map. -/
def aqK (m : Aff) (p : Pn) : Int := if rwC m.xx m.xy m.dx p.1 p.2 = 0 then rwC m.yx m.yy m.dy p.1 p.2 else rwC m.xx m.xy m.dx p.1 p.2
def aqC (m : Aff) (p : Pn) : Int := if aqK m p = 0 then (if okB (apP m p).1 (apP m p).2 = true then 0 else 2) else aqK m p
def apB (m : Aff) (p : Pn) : Bool := decide (aqC m p = 0)
def aqP (m : Aff) (p : Pn) : Pn := if aqC m p = 0 then apP m p else (0, 0)
/-! ### The program -/
theorem gcd_step {p q a b : Nat} (h : Nat.gcd p q = Nat.gcd a b) : Nat.gcd q (p % q) = Nat.gcd a b := by
 rw [← h, Nat.gcd_comm q (p % q), ← Nat.gcd_rec, Nat.gcd_comm]
theorem gcd_end {p a b : Nat} (h : Nat.gcd p 0 = Nat.gcd a b) : p = Nat.gcd a b := by rw [← h, Nat.gcd_zero_right]
theorem gcd64_any (a b : Nat) (w : World) (ha : a < 18446744073709551616) (hb : b < 18446744073709551616) : Calls Try.prog 135 #[.int .u64 (a : Int), .int .u64 (b : Int)] w fun e w' => e = .returned (.int .u64 ((Nat.gcd a b : Nat) : Int)) ∧ Over w w' := by
 refine walk_from (m := 12) (Try.func135) rfl rfl (Nat.le_of_ble_eq_true rfl) ?_
 refine at_seq ?_
 refine at_region ?_
 refine at_q rfl rfl (by decide) (qt_assign rfl rfl) ?_
 refine at_end ?_
 refine at_seq ?_
 refine at_block ?_
 refine at_loopk (X := Nat × Nat) (fun x => x.1 < 18446744073709551616 ∧ x.2 < 18446744073709551616 ∧ Nat.gcd x.1 x.2 = Nat.gcd a b) (fun x => x.2) (fun x => [(0, .int .u64 (x.1 : Int)), (1, .int .u64 (x.2 : Int))]) (C := [(4, _)]) ⟨rfl, trivial⟩ (a, b) (⟨ha, hb, rfl⟩) ⟨rfl, rfl, rfl, trivial⟩ ?_
 intro ⟨p, q⟩ hx L hL1
 refine at_envE (by simp only [ya,yb]; rfl) ?_
 obtain ⟨hp, hq, hg⟩ := hx
 simp only at hp hq hg
 refine at_seq ?_
 refine at_seq ?_
 refine at_region ?_
 refine at_q rfl rfl (by decide) (qt_move rfl rfl) ?_
 refine at_q rfl rfl (by decide) (qt_neqU rfl rfl rfl) ?_
 refine at_end ?_
 refine at_cond rfl (fun c1 => ?_) (fun c1 => ?_)
 ·try simp only [za,zb,zc,zd,ze,zf,Bool.not_true,Bool.not_false,zg,zh,ne_eq,zi,zj] at c1
  have hq0 : 0 < q := (by omega)
  refine at_skip ?_
  refine norm_then ?_
  refine at_block ?_
  refine dg_start mixed rfl ?_
  refine dg_phase 6 ?_
  refine dg_q (i := 0) rfl (by kernel_rfl) (by kernel_rfl) (by kernel_rfl) [] (by kernel_rfl) (fun _ _ _ h => h) rfl rfl (by decide) (fun _ h => h.upto trivial) (qt_move rfl rfl) ?_
  refine dg_q (i := 1) rfl (by kernel_rfl) (by kernel_rfl) (by kernel_rfl) [] (by kernel_rfl) (fun _ _ _ h => h) rfl rfl (by decide) (fun _ h => h.upto trivial) (qt_move rfl rfl) ?_
  refine dg_q (i := 2) rfl (by kernel_rfl) (by kernel_rfl) (by kernel_rfl) [] (by kernel_rfl) (fun _ _ _ h => h) rfl rfl (by decide) (fun _ h => h.upto trivial) (qt_move rfl rfl) ?_
  refine dg_q (i := 3) rfl (by kernel_rfl) (by kernel_rfl) (by kernel_rfl) [] (by kernel_rfl) (fun _ _ _ h => h) rfl rfl (by decide) (fun _ h => h.upto trivial) (qt_remU rfl rfl rfl hq0 hp) ?_
  refine dg_q (i := 4) rfl (by kernel_rfl) (by kernel_rfl) (by kernel_rfl) [] (by kernel_rfl) (fun _ _ _ h => h) rfl rfl (by decide) (fun _ h => h.upto trivial) (qt_assign rfl rfl) ?_
  refine dg_q (i := 5) rfl (by kernel_rfl) (by kernel_rfl) (by kernel_rfl) [] (by kernel_rfl) (fun _ _ _ h => h) rfl rfl (by decide) (fun _ h => h.upto trivial) (qt_assign rfl rfl) ?_
  refine dg_done (by kernel_rfl) ?_
  refine norm_block ?_
  refine norm_then ?_
  exact at_againk hL1 ((q, p % q)) (⟨hq, Nat.lt_of_le_of_lt (Nat.mod_le _ _) hp, gcd_step hg⟩) ((show p % q < q from Nat.mod_lt _ hq0)) ⟨rfl, rfl, rfl, trivial⟩ (fun _ h => h.upto trivial)
 ·try simp only [za,zb,zc,zd,ze,zf,Bool.not_true,Bool.not_false,zg,zh,ne_eq,zi,zj] at c1
  have hq0 : q = 0 := (by omega)
  subst hq0
  refine at_exit ?_
  refine pass_then (fun h => by cases h) ?_
  refine pass_then (fun h => by cases h) ?_
  refine pass_hit ?_
  refine norm_then ?_
  refine at_seq ?_
  refine at_region ?_
  refine at_q rfl rfl (by decide) (qt_move rfl rfl) ?_
  refine at_q rfl rfl (by decide) (qt_assign rfl rfl) ?_
  refine at_end ?_
  refine at_retc ?_
  refine at_ret1 rfl (.tmp rfl) ?_
  intro w' hs
  exact ⟨by rw [gcd_end hg], hs.fin⟩
theorem absW_neg {n : Int} (h1 : -9223372036854775808 ≤ n) (h : n < 0) : IntKind.u64.wrap (-(IntKind.u64.wrap n)) = ((n.natAbs : Nat) : Int) := by
 simp [IntKind.wrap, IntKind.bits, IntKind.signed]
 omega
theorem absU_any (n : Int) (w : World) (h1 : -9223372036854775808 ≤ n) (h2 : n ≤ 9223372036854775807) : Calls Try.prog 136 #[.int .i64 n] w fun e w' => e = .returned (.int .u64 ((n.natAbs : Nat) : Int)) ∧ Over w w' := by
 refine walk_from (m := 10) (Try.func136) rfl rfl (Nat.le_of_ble_eq_true rfl) ?_
 refine at_seq ?_
 refine at_region ?_
 refine at_q rfl rfl (by decide) (qt_assign rfl rfl) ?_
 refine at_end ?_
 refine at_seq ?_
 refine at_seq ?_
 refine at_region ?_
 refine at_q rfl rfl (by decide) (qt_move rfl rfl) ?_
 refine at_q rfl rfl (by decide) (qt_lss rfl rfl rfl) ?_
 refine at_end ?_
 refine at_cond rfl (fun c1 => ?_) (fun c1 => ?_)
 ·try simp only [za,zb,zc,zd,ze,zf,Bool.not_true,Bool.not_false,zg,zh,ne_eq,zi,zj] at c1
  refine at_seq ?_
  refine at_region ?_
  refine at_q rfl rfl (by decide) (qt_move rfl rfl) ?_
  refine at_q rfl rfl (by decide) (qt_convW rfl Try.underlying2 Try.underlying199 rfl) ?_
  refine at_q rfl rfl (by decide) ((qt_negU rfl rfl).as (congrArg _ (absW_neg h1 c1))) ?_
  refine at_q rfl rfl (by decide) (qt_assign rfl rfl) ?_
  refine at_end ?_
  refine at_retc ?_
  refine then_ret ?_
  refine at_ret1 rfl (.tmp rfl) ?_
  intro w' hs
  exact ⟨rfl, hs.fin⟩
 ·try simp only [za,zb,zc,zd,ze,zf,Bool.not_true,Bool.not_false,zg,zh,ne_eq,zi,zj] at c1
  refine at_skip ?_
  refine norm_then ?_
  refine at_seq ?_
  refine at_region ?_
  refine at_q rfl rfl (by decide) (qt_move rfl rfl) ?_
  refine at_q rfl rfl (by decide) ((qt_convI rfl Try.underlying2 Try.underlying199 rfl (u64_in _ (by omega) (by omega))).as (congrArg _ (show n = ((n.natAbs : Nat) : Int) by omega))) ?_
  refine at_q rfl rfl (by decide) (qt_assign rfl rfl) ?_
  refine at_end ?_
  refine at_retc ?_
  refine at_ret1 rfl (.tmp rfl) ?_
  intro w' hs
  exact ⟨rfl, hs.fin⟩
theorem fr_in {p : Pn} (h1 : 1 ≤ p.2 ∧ p.2 ≤ 1000000) (h2 : -1000000000 ≤ p.1 ∧ p.1 ≤ 1000000000) : (((Nat.gcd p.1.natAbs p.2.natAbs : Nat) : Int) == 1) = frB p := by
 unfold frB
 rw [decide_eq_true h1, decide_eq_true h2, Bool.true_and, Bool.true_and, Bool.eq_iff_iff, beq_iff_eq, decide_eq_true_eq]
 omega
theorem fr_no {p : Pn} (h : ¬ ((1 ≤ p.2 ∧ p.2 ≤ 1000000) ∧ -1000000000 ≤ p.1 ∧ p.1 ≤ 1000000000)) : false = frB p := by
 cases e : frB p with
 | false => rfl
 | true =>
  have := fr_ok e
  exact absurd ⟨⟨this.d1, this.d2⟩, this.n1, this.n2⟩ h
theorem ValidFrac_any (p : Pn) (w : World) : Calls Try.prog 91 #[pV p] w fun e w' => e = .returned (.bool (frB p)) ∧ Over w w' := by
 refine walk_from (m := 31) (Try.func91) rfl rfl (Nat.le_of_ble_eq_true rfl) ?_
 refine at_seq ?_
 refine at_region ?_
 refine at_op rfl ?_
 refine op_box rfl rfl (rfl) rfl (by decide) (fun b1 => ?_)
 refine at_rsE (by simp only [ya,yb,yc,yd,Value.cells,ye]; rfl) ?_
 refine at_q rfl rfl (by decide) (qt_assign rfl rfl) ?_
 refine at_end ?_
 refine at_seq ?_
 refine dg_start mixed rfl ?_
 refine dg_phase 29 ?_
 refine dg_q (i := 0) rfl (by kernel_rfl) (by kernel_rfl) (by kernel_rfl) [] (by kernel_rfl) (fun _ _ _ h => h) rfl rfl (by decide) (fun _ h => h.upto ⟨rfl, trivial⟩) (qt_fieldAddr rfl rfl tyf_impl_Frac_1) ?_
 refine dg_q (i := 1) rfl (by kernel_rfl) (by kernel_rfl) (by kernel_rfl) [] (by kernel_rfl) (fun _ _ _ h => h) rfl rfl (by decide) (fun _ h => h.upto ⟨rfl, trivial⟩) (qt_load1 rfl rfl ty1_int64 (rd1 (k := 0) rfl rfl)) ?_
 refine dg_q (i := 2) rfl (by kernel_rfl) (by kernel_rfl) (by kernel_rfl) [] (by kernel_rfl) (fun _ _ _ h => h) rfl rfl (by decide) (fun _ h => h.upto ⟨rfl, trivial⟩) (qt_geq rfl rfl rfl) ?_
 refine dg_q (i := 3) rfl (by kernel_rfl) (by kernel_rfl) (by kernel_rfl) [] (by kernel_rfl) (fun _ _ _ h => h) rfl rfl (by decide) (fun _ h => h.upto ⟨rfl, trivial⟩) (qt_move rfl rfl) ?_
 refine at_bsplit 6 rfl (fun g1 => ?_) (fun g1 => ?_)
 ·try simp only [za,zb,zc,zd,ze,zf,Bool.not_true,Bool.not_false,zg,zh,ne_eq,zi,zj] at g1
  refine dg_qg (i := 4) rfl (by kernel_rfl) (by kernel_rfl) (by kernel_rfl) [] (by kernel_rfl) (fun _ _ _ h => h) rfl rfl rfl rfl rfl (by decide) (fun _ h => h.upto ⟨rfl, trivial⟩) (qt_fieldAddr rfl rfl tyf_impl_Frac_1) ?_
  refine dg_qg (i := 5) rfl (by kernel_rfl) (by kernel_rfl) (by kernel_rfl) [] (by kernel_rfl) (fun _ _ _ h => h) rfl rfl rfl rfl rfl (by decide) (fun _ h => h.upto ⟨rfl, trivial⟩) (qt_load1 rfl rfl ty1_int64 (rd1 (k := 0) rfl rfl)) ?_
  refine dg_qg (i := 6) rfl (by kernel_rfl) (by kernel_rfl) (by kernel_rfl) [] (by kernel_rfl) (fun _ _ _ h => h) rfl rfl rfl rfl rfl (by decide) (fun _ h => h.upto ⟨rfl, trivial⟩) (qt_leq rfl rfl rfl) ?_
  refine dg_q (i := 7) rfl (by kernel_rfl) (by kernel_rfl) (by kernel_rfl) [] (by kernel_rfl) (fun _ _ _ h => h) rfl rfl (by decide) (fun _ h => h.upto ⟨rfl, trivial⟩) (qt_pickT rfl rfl rfl) ?_
  refine dg_q (i := 8) rfl (by kernel_rfl) (by kernel_rfl) (by kernel_rfl) [] (by kernel_rfl) (fun _ _ _ h => h) rfl rfl (by decide) (fun _ h => h.upto ⟨rfl, trivial⟩) (qt_move rfl rfl) ?_
  refine at_bsplit 11 rfl (fun g2 => ?_) (fun g2 => ?_)
  ·try simp only [za,zb,zc,zd,ze,zf,Bool.not_true,Bool.not_false,zg,zh,ne_eq,zi,zj] at g2
   refine dg_qg (i := 9) rfl (by kernel_rfl) (by kernel_rfl) (by kernel_rfl) [] (by kernel_rfl) (fun _ _ _ h => h) rfl rfl rfl rfl rfl (by decide) (fun _ h => h.upto ⟨rfl, trivial⟩) (qt_fieldAddr rfl rfl tyf_impl_Frac_0) ?_
   refine dg_qg (i := 10) rfl (by kernel_rfl) (by kernel_rfl) (by kernel_rfl) [] (by kernel_rfl) (fun _ _ _ h => h) rfl rfl rfl rfl rfl (by decide) (fun _ h => h.upto ⟨rfl, trivial⟩) (qt_load1 rfl rfl ty1_int64 (rd1 (k := 0) rfl rfl)) ?_
   refine dg_qg (i := 11) rfl (by kernel_rfl) (by kernel_rfl) (by kernel_rfl) [] (by kernel_rfl) (fun _ _ _ h => h) rfl rfl rfl rfl rfl (by decide) (fun _ h => h.upto ⟨rfl, trivial⟩) (qt_geq rfl rfl rfl) ?_
   refine dg_q (i := 12) rfl (by kernel_rfl) (by kernel_rfl) (by kernel_rfl) [] (by kernel_rfl) (fun _ _ _ h => h) rfl rfl (by decide) (fun _ h => h.upto ⟨rfl, trivial⟩) (qt_pickT rfl rfl rfl) ?_
   refine dg_q (i := 13) rfl (by kernel_rfl) (by kernel_rfl) (by kernel_rfl) [] (by kernel_rfl) (fun _ _ _ h => h) rfl rfl (by decide) (fun _ h => h.upto ⟨rfl, trivial⟩) (qt_move rfl rfl) ?_
   refine at_bsplit 16 rfl (fun g3 => ?_) (fun g3 => ?_)
   ·try simp only [za,zb,zc,zd,ze,zf,Bool.not_true,Bool.not_false,zg,zh,ne_eq,zi,zj] at g3
    refine dg_qg (i := 14) rfl (by kernel_rfl) (by kernel_rfl) (by kernel_rfl) [] (by kernel_rfl) (fun _ _ _ h => h) rfl rfl rfl rfl rfl (by decide) (fun _ h => h.upto ⟨rfl, trivial⟩) (qt_fieldAddr rfl rfl tyf_impl_Frac_0) ?_
    refine dg_qg (i := 15) rfl (by kernel_rfl) (by kernel_rfl) (by kernel_rfl) [] (by kernel_rfl) (fun _ _ _ h => h) rfl rfl rfl rfl rfl (by decide) (fun _ h => h.upto ⟨rfl, trivial⟩) (qt_load1 rfl rfl ty1_int64 (rd1 (k := 0) rfl rfl)) ?_
    refine dg_qg (i := 16) rfl (by kernel_rfl) (by kernel_rfl) (by kernel_rfl) [] (by kernel_rfl) (fun _ _ _ h => h) rfl rfl rfl rfl rfl (by decide) (fun _ h => h.upto ⟨rfl, trivial⟩) (qt_leq rfl rfl rfl) ?_
    refine dg_q (i := 17) rfl (by kernel_rfl) (by kernel_rfl) (by kernel_rfl) [] (by kernel_rfl) (fun _ _ _ h => h) rfl rfl (by decide) (fun _ h => h.upto ⟨rfl, trivial⟩) (qt_pickT rfl rfl rfl) ?_
    refine dg_q (i := 18) rfl (by kernel_rfl) (by kernel_rfl) (by kernel_rfl) [] (by kernel_rfl) (fun _ _ _ h => h) rfl rfl (by decide) (fun _ h => h.upto ⟨rfl, trivial⟩) (qt_move rfl rfl) ?_
    refine at_bsplit 21 rfl (fun g4 => ?_) (fun g4 => ?_)
    ·try simp only [za,zb,zc,zd,ze,zf,Bool.not_true,Bool.not_false,zg,zh,ne_eq,zi,zj] at g4
     refine dg_qg (i := 19) rfl (by kernel_rfl) (by kernel_rfl) (by kernel_rfl) [] (by kernel_rfl) (fun _ _ _ h => h) rfl rfl rfl rfl rfl (by decide) (fun _ h => h.upto ⟨rfl, trivial⟩) (qt_fieldAddr rfl rfl tyf_impl_Frac_0) ?_
     refine dg_qg (i := 20) rfl (by kernel_rfl) (by kernel_rfl) (by kernel_rfl) [] (by kernel_rfl) (fun _ _ _ h => h) rfl rfl rfl rfl rfl (by decide) (fun _ h => h.upto ⟨rfl, trivial⟩) (qt_load1 rfl rfl ty1_int64 (rd1 (k := 0) rfl rfl)) ?_
     refine dg_qg (i := 21) rfl (by kernel_rfl) (by kernel_rfl) (by kernel_rfl) [] (by kernel_rfl) (fun _ _ _ h => h) rfl rfl rfl rfl rfl (by decide) (fun _ h => h.upto ⟨rfl, trivial⟩) (qt_call ok_impl_absU rfl rfl (fun w1 hs => absU_any p.1 w1 (by omega) (by omega))) ?_
     refine dg_qg (i := 22) rfl (by kernel_rfl) (by kernel_rfl) (by kernel_rfl) [] (by kernel_rfl) (fun _ _ _ h => h) rfl rfl rfl rfl rfl (by decide) (fun _ h => h.upto ⟨rfl, trivial⟩) (qt_fieldAddr rfl rfl tyf_impl_Frac_1) ?_
     refine dg_qg (i := 23) rfl (by kernel_rfl) (by kernel_rfl) (by kernel_rfl) [] (by kernel_rfl) (fun _ _ _ h => h) rfl rfl rfl rfl rfl (by decide) (fun _ h => h.upto ⟨rfl, trivial⟩) (qt_load1 rfl rfl ty1_int64 (rd1 (k := 0) rfl rfl)) ?_
     refine dg_qg (i := 24) rfl (by kernel_rfl) (by kernel_rfl) (by kernel_rfl) [] (by kernel_rfl) (fun _ _ _ h => h) rfl rfl rfl rfl rfl (by decide) (fun _ h => h.upto ⟨rfl, trivial⟩) ((qt_convI rfl Try.underlying2 Try.underlying199 rfl (u64_in _ (by omega) (by omega))).as (congrArg _ (show p.2 = ((p.2.natAbs : Nat) : Int) by omega))) ?_
     refine dg_qg (i := 25) rfl (by kernel_rfl) (by kernel_rfl) (by kernel_rfl) [] (by kernel_rfl) (fun _ _ _ h => h) rfl rfl rfl rfl rfl (by decide) (fun _ h => h.upto ⟨rfl, trivial⟩) (qt_call ok_impl_gcd64 rfl rfl (fun w1 hs => gcd64_any p.1.natAbs p.2.natAbs w1 (by omega) (by omega))) ?_
     refine dg_qg (i := 26) rfl (by kernel_rfl) (by kernel_rfl) (by kernel_rfl) [] (by kernel_rfl) (fun _ _ _ h => h) rfl rfl rfl rfl rfl (by decide) (fun _ h => h.upto ⟨rfl, trivial⟩) (qt_eqlU rfl rfl rfl) ?_
     refine dg_q (i := 27) rfl (by kernel_rfl) (by kernel_rfl) (by kernel_rfl) [] (by kernel_rfl) (fun _ _ _ h => h) rfl rfl (by decide) (fun _ h => h.upto ⟨rfl, trivial⟩) (qt_pickT rfl rfl rfl) ?_
     refine dg_q (i := 28) rfl (by kernel_rfl) (by kernel_rfl) (by kernel_rfl) [] (by kernel_rfl) (fun _ _ _ h => h) rfl rfl (by decide) (fun _ h => h.upto ⟨rfl, trivial⟩) (qt_assign rfl rfl) ?_
     refine dg_done (by kernel_rfl) ?_
     refine norm_then ?_
     refine at_retc ?_
     refine at_ret1 rfl (.tmp rfl) ?_
     intro w' hs
     first | exact ⟨retB (fr_in ⟨by omega, by omega⟩ ⟨by omega, by omega⟩), hs.fin⟩ | exact ⟨retB (fr_no (by omega)), hs.fin⟩
    ·try simp only [za,zb,zc,zd,ze,zf,Bool.not_true,Bool.not_false,zg,zh,ne_eq,zi,zj] at g4
     refine dg_off (i := 19) rfl (by kernel_rfl) (by kernel_rfl) (by kernel_rfl) [] (by kernel_rfl) (fun _ _ _ h => h) rfl rfl rfl rfl (by decide) rfl (by decide) (fun _ h => h.upto ⟨rfl, trivial⟩) ?_
     refine dg_off (i := 20) rfl (by kernel_rfl) (by kernel_rfl) (by kernel_rfl) [] (by kernel_rfl) (fun _ _ _ h => h) rfl rfl rfl rfl (by decide) rfl (by decide) (fun _ h => h.upto ⟨rfl, trivial⟩) ?_
     refine dg_off (i := 21) rfl (by kernel_rfl) (by kernel_rfl) (by kernel_rfl) [] (by kernel_rfl) (fun _ _ _ h => h) rfl rfl rfl rfl (by decide) rfl (by decide) (fun _ h => h.upto ⟨rfl, trivial⟩) ?_
     refine dg_off (i := 22) rfl (by kernel_rfl) (by kernel_rfl) (by kernel_rfl) [] (by kernel_rfl) (fun _ _ _ h => h) rfl rfl rfl rfl (by decide) rfl (by decide) (fun _ h => h.upto ⟨rfl, trivial⟩) ?_
     refine dg_off (i := 23) rfl (by kernel_rfl) (by kernel_rfl) (by kernel_rfl) [] (by kernel_rfl) (fun _ _ _ h => h) rfl rfl rfl rfl (by decide) rfl (by decide) (fun _ h => h.upto ⟨rfl, trivial⟩) ?_
     refine dg_off (i := 24) rfl (by kernel_rfl) (by kernel_rfl) (by kernel_rfl) [] (by kernel_rfl) (fun _ _ _ h => h) rfl rfl rfl rfl (by decide) rfl (by decide) (fun _ h => h.upto ⟨rfl, trivial⟩) ?_
     refine dg_off (i := 25) rfl (by kernel_rfl) (by kernel_rfl) (by kernel_rfl) [] (by kernel_rfl) (fun _ _ _ h => h) rfl rfl rfl rfl (by decide) rfl (by decide) (fun _ h => h.upto ⟨rfl, trivial⟩) ?_
     refine dg_off (i := 26) rfl (by kernel_rfl) (by kernel_rfl) (by kernel_rfl) [] (by kernel_rfl) (fun _ _ _ h => h) rfl rfl rfl rfl (by decide) rfl (by decide) (fun _ h => h.upto ⟨rfl, trivial⟩) ?_
     refine dg_q (i := 27) rfl (by kernel_rfl) (by kernel_rfl) (by kernel_rfl) [] (by kernel_rfl) (fun _ _ _ h => h) rfl rfl (by decide) (fun _ h => h.upto ⟨rfl, trivial⟩) (qt_pickF rfl rfl rfl) ?_
     refine dg_q (i := 28) rfl (by kernel_rfl) (by kernel_rfl) (by kernel_rfl) [] (by kernel_rfl) (fun _ _ _ h => h) rfl rfl (by decide) (fun _ h => h.upto ⟨rfl, trivial⟩) (qt_assign rfl rfl) ?_
     refine dg_done (by kernel_rfl) ?_
     refine norm_then ?_
     refine at_retc ?_
     refine at_ret1 rfl (.tmp rfl) ?_
     intro w' hs
     first | exact ⟨retB (fr_in ⟨by omega, by omega⟩ ⟨by omega, by omega⟩), hs.fin⟩ | exact ⟨retB (fr_no (by omega)), hs.fin⟩
   ·try simp only [za,zb,zc,zd,ze,zf,Bool.not_true,Bool.not_false,zg,zh,ne_eq,zi,zj] at g3
    refine dg_off (i := 14) rfl (by kernel_rfl) (by kernel_rfl) (by kernel_rfl) [] (by kernel_rfl) (fun _ _ _ h => h) rfl rfl rfl rfl (by decide) rfl (by decide) (fun _ h => h.upto ⟨rfl, trivial⟩) ?_
    refine dg_off (i := 15) rfl (by kernel_rfl) (by kernel_rfl) (by kernel_rfl) [] (by kernel_rfl) (fun _ _ _ h => h) rfl rfl rfl rfl (by decide) rfl (by decide) (fun _ h => h.upto ⟨rfl, trivial⟩) ?_
    refine dg_off (i := 16) rfl (by kernel_rfl) (by kernel_rfl) (by kernel_rfl) [] (by kernel_rfl) (fun _ _ _ h => h) rfl rfl rfl rfl (by decide) rfl (by decide) (fun _ h => h.upto ⟨rfl, trivial⟩) ?_
    refine dg_q (i := 17) rfl (by kernel_rfl) (by kernel_rfl) (by kernel_rfl) [] (by kernel_rfl) (fun _ _ _ h => h) rfl rfl (by decide) (fun _ h => h.upto ⟨rfl, trivial⟩) (qt_pickF rfl rfl rfl) ?_
    refine dg_q (i := 18) rfl (by kernel_rfl) (by kernel_rfl) (by kernel_rfl) [] (by kernel_rfl) (fun _ _ _ h => h) rfl rfl (by decide) (fun _ h => h.upto ⟨rfl, trivial⟩) (qt_move rfl rfl) ?_
    refine dg_off (i := 19) rfl (by kernel_rfl) (by kernel_rfl) (by kernel_rfl) [] (by kernel_rfl) (fun _ _ _ h => h) rfl rfl rfl rfl (by decide) rfl (by decide) (fun _ h => h.upto ⟨rfl, trivial⟩) ?_
    refine dg_off (i := 20) rfl (by kernel_rfl) (by kernel_rfl) (by kernel_rfl) [] (by kernel_rfl) (fun _ _ _ h => h) rfl rfl rfl rfl (by decide) rfl (by decide) (fun _ h => h.upto ⟨rfl, trivial⟩) ?_
    refine dg_off (i := 21) rfl (by kernel_rfl) (by kernel_rfl) (by kernel_rfl) [] (by kernel_rfl) (fun _ _ _ h => h) rfl rfl rfl rfl (by decide) rfl (by decide) (fun _ h => h.upto ⟨rfl, trivial⟩) ?_
    refine dg_off (i := 22) rfl (by kernel_rfl) (by kernel_rfl) (by kernel_rfl) [] (by kernel_rfl) (fun _ _ _ h => h) rfl rfl rfl rfl (by decide) rfl (by decide) (fun _ h => h.upto ⟨rfl, trivial⟩) ?_
    refine dg_off (i := 23) rfl (by kernel_rfl) (by kernel_rfl) (by kernel_rfl) [] (by kernel_rfl) (fun _ _ _ h => h) rfl rfl rfl rfl (by decide) rfl (by decide) (fun _ h => h.upto ⟨rfl, trivial⟩) ?_
    refine dg_off (i := 24) rfl (by kernel_rfl) (by kernel_rfl) (by kernel_rfl) [] (by kernel_rfl) (fun _ _ _ h => h) rfl rfl rfl rfl (by decide) rfl (by decide) (fun _ h => h.upto ⟨rfl, trivial⟩) ?_
    refine dg_off (i := 25) rfl (by kernel_rfl) (by kernel_rfl) (by kernel_rfl) [] (by kernel_rfl) (fun _ _ _ h => h) rfl rfl rfl rfl (by decide) rfl (by decide) (fun _ h => h.upto ⟨rfl, trivial⟩) ?_
    refine dg_off (i := 26) rfl (by kernel_rfl) (by kernel_rfl) (by kernel_rfl) [] (by kernel_rfl) (fun _ _ _ h => h) rfl rfl rfl rfl (by decide) rfl (by decide) (fun _ h => h.upto ⟨rfl, trivial⟩) ?_
    refine dg_q (i := 27) rfl (by kernel_rfl) (by kernel_rfl) (by kernel_rfl) [] (by kernel_rfl) (fun _ _ _ h => h) rfl rfl (by decide) (fun _ h => h.upto ⟨rfl, trivial⟩) (qt_pickF rfl rfl rfl) ?_
    refine dg_q (i := 28) rfl (by kernel_rfl) (by kernel_rfl) (by kernel_rfl) [] (by kernel_rfl) (fun _ _ _ h => h) rfl rfl (by decide) (fun _ h => h.upto ⟨rfl, trivial⟩) (qt_assign rfl rfl) ?_
    refine dg_done (by kernel_rfl) ?_
    refine norm_then ?_
    refine at_retc ?_
    refine at_ret1 rfl (.tmp rfl) ?_
    intro w' hs
    first | exact ⟨retB (fr_in ⟨by omega, by omega⟩ ⟨by omega, by omega⟩), hs.fin⟩ | exact ⟨retB (fr_no (by omega)), hs.fin⟩
  ·try simp only [za,zb,zc,zd,ze,zf,Bool.not_true,Bool.not_false,zg,zh,ne_eq,zi,zj] at g2
   refine dg_off (i := 9) rfl (by kernel_rfl) (by kernel_rfl) (by kernel_rfl) [] (by kernel_rfl) (fun _ _ _ h => h) rfl rfl rfl rfl (by decide) rfl (by decide) (fun _ h => h.upto ⟨rfl, trivial⟩) ?_
   refine dg_off (i := 10) rfl (by kernel_rfl) (by kernel_rfl) (by kernel_rfl) [] (by kernel_rfl) (fun _ _ _ h => h) rfl rfl rfl rfl (by decide) rfl (by decide) (fun _ h => h.upto ⟨rfl, trivial⟩) ?_
   refine dg_off (i := 11) rfl (by kernel_rfl) (by kernel_rfl) (by kernel_rfl) [] (by kernel_rfl) (fun _ _ _ h => h) rfl rfl rfl rfl (by decide) rfl (by decide) (fun _ h => h.upto ⟨rfl, trivial⟩) ?_
   refine dg_q (i := 12) rfl (by kernel_rfl) (by kernel_rfl) (by kernel_rfl) [] (by kernel_rfl) (fun _ _ _ h => h) rfl rfl (by decide) (fun _ h => h.upto ⟨rfl, trivial⟩) (qt_pickF rfl rfl rfl) ?_
   refine dg_q (i := 13) rfl (by kernel_rfl) (by kernel_rfl) (by kernel_rfl) [] (by kernel_rfl) (fun _ _ _ h => h) rfl rfl (by decide) (fun _ h => h.upto ⟨rfl, trivial⟩) (qt_move rfl rfl) ?_
   refine dg_off (i := 14) rfl (by kernel_rfl) (by kernel_rfl) (by kernel_rfl) [] (by kernel_rfl) (fun _ _ _ h => h) rfl rfl rfl rfl (by decide) rfl (by decide) (fun _ h => h.upto ⟨rfl, trivial⟩) ?_
   refine dg_off (i := 15) rfl (by kernel_rfl) (by kernel_rfl) (by kernel_rfl) [] (by kernel_rfl) (fun _ _ _ h => h) rfl rfl rfl rfl (by decide) rfl (by decide) (fun _ h => h.upto ⟨rfl, trivial⟩) ?_
   refine dg_off (i := 16) rfl (by kernel_rfl) (by kernel_rfl) (by kernel_rfl) [] (by kernel_rfl) (fun _ _ _ h => h) rfl rfl rfl rfl (by decide) rfl (by decide) (fun _ h => h.upto ⟨rfl, trivial⟩) ?_
   refine dg_q (i := 17) rfl (by kernel_rfl) (by kernel_rfl) (by kernel_rfl) [] (by kernel_rfl) (fun _ _ _ h => h) rfl rfl (by decide) (fun _ h => h.upto ⟨rfl, trivial⟩) (qt_pickF rfl rfl rfl) ?_
   refine dg_q (i := 18) rfl (by kernel_rfl) (by kernel_rfl) (by kernel_rfl) [] (by kernel_rfl) (fun _ _ _ h => h) rfl rfl (by decide) (fun _ h => h.upto ⟨rfl, trivial⟩) (qt_move rfl rfl) ?_
   refine dg_off (i := 19) rfl (by kernel_rfl) (by kernel_rfl) (by kernel_rfl) [] (by kernel_rfl) (fun _ _ _ h => h) rfl rfl rfl rfl (by decide) rfl (by decide) (fun _ h => h.upto ⟨rfl, trivial⟩) ?_
   refine dg_off (i := 20) rfl (by kernel_rfl) (by kernel_rfl) (by kernel_rfl) [] (by kernel_rfl) (fun _ _ _ h => h) rfl rfl rfl rfl (by decide) rfl (by decide) (fun _ h => h.upto ⟨rfl, trivial⟩) ?_
   refine dg_off (i := 21) rfl (by kernel_rfl) (by kernel_rfl) (by kernel_rfl) [] (by kernel_rfl) (fun _ _ _ h => h) rfl rfl rfl rfl (by decide) rfl (by decide) (fun _ h => h.upto ⟨rfl, trivial⟩) ?_
   refine dg_off (i := 22) rfl (by kernel_rfl) (by kernel_rfl) (by kernel_rfl) [] (by kernel_rfl) (fun _ _ _ h => h) rfl rfl rfl rfl (by decide) rfl (by decide) (fun _ h => h.upto ⟨rfl, trivial⟩) ?_
   refine dg_off (i := 23) rfl (by kernel_rfl) (by kernel_rfl) (by kernel_rfl) [] (by kernel_rfl) (fun _ _ _ h => h) rfl rfl rfl rfl (by decide) rfl (by decide) (fun _ h => h.upto ⟨rfl, trivial⟩) ?_
   refine dg_off (i := 24) rfl (by kernel_rfl) (by kernel_rfl) (by kernel_rfl) [] (by kernel_rfl) (fun _ _ _ h => h) rfl rfl rfl rfl (by decide) rfl (by decide) (fun _ h => h.upto ⟨rfl, trivial⟩) ?_
   refine dg_off (i := 25) rfl (by kernel_rfl) (by kernel_rfl) (by kernel_rfl) [] (by kernel_rfl) (fun _ _ _ h => h) rfl rfl rfl rfl (by decide) rfl (by decide) (fun _ h => h.upto ⟨rfl, trivial⟩) ?_
   refine dg_off (i := 26) rfl (by kernel_rfl) (by kernel_rfl) (by kernel_rfl) [] (by kernel_rfl) (fun _ _ _ h => h) rfl rfl rfl rfl (by decide) rfl (by decide) (fun _ h => h.upto ⟨rfl, trivial⟩) ?_
   refine dg_q (i := 27) rfl (by kernel_rfl) (by kernel_rfl) (by kernel_rfl) [] (by kernel_rfl) (fun _ _ _ h => h) rfl rfl (by decide) (fun _ h => h.upto ⟨rfl, trivial⟩) (qt_pickF rfl rfl rfl) ?_
   refine dg_q (i := 28) rfl (by kernel_rfl) (by kernel_rfl) (by kernel_rfl) [] (by kernel_rfl) (fun _ _ _ h => h) rfl rfl (by decide) (fun _ h => h.upto ⟨rfl, trivial⟩) (qt_assign rfl rfl) ?_
   refine dg_done (by kernel_rfl) ?_
   refine norm_then ?_
   refine at_retc ?_
   refine at_ret1 rfl (.tmp rfl) ?_
   intro w' hs
   first | exact ⟨retB (fr_in ⟨by omega, by omega⟩ ⟨by omega, by omega⟩), hs.fin⟩ | exact ⟨retB (fr_no (by omega)), hs.fin⟩
 ·try simp only [za,zb,zc,zd,ze,zf,Bool.not_true,Bool.not_false,zg,zh,ne_eq,zi,zj] at g1
  refine dg_off (i := 4) rfl (by kernel_rfl) (by kernel_rfl) (by kernel_rfl) [] (by kernel_rfl) (fun _ _ _ h => h) rfl rfl rfl rfl (by decide) rfl (by decide) (fun _ h => h.upto ⟨rfl, trivial⟩) ?_
  refine dg_off (i := 5) rfl (by kernel_rfl) (by kernel_rfl) (by kernel_rfl) [] (by kernel_rfl) (fun _ _ _ h => h) rfl rfl rfl rfl (by decide) rfl (by decide) (fun _ h => h.upto ⟨rfl, trivial⟩) ?_
  refine dg_off (i := 6) rfl (by kernel_rfl) (by kernel_rfl) (by kernel_rfl) [] (by kernel_rfl) (fun _ _ _ h => h) rfl rfl rfl rfl (by decide) rfl (by decide) (fun _ h => h.upto ⟨rfl, trivial⟩) ?_
  refine dg_q (i := 7) rfl (by kernel_rfl) (by kernel_rfl) (by kernel_rfl) [] (by kernel_rfl) (fun _ _ _ h => h) rfl rfl (by decide) (fun _ h => h.upto ⟨rfl, trivial⟩) (qt_pickF rfl rfl rfl) ?_
  refine dg_q (i := 8) rfl (by kernel_rfl) (by kernel_rfl) (by kernel_rfl) [] (by kernel_rfl) (fun _ _ _ h => h) rfl rfl (by decide) (fun _ h => h.upto ⟨rfl, trivial⟩) (qt_move rfl rfl) ?_
  refine dg_off (i := 9) rfl (by kernel_rfl) (by kernel_rfl) (by kernel_rfl) [] (by kernel_rfl) (fun _ _ _ h => h) rfl rfl rfl rfl (by decide) rfl (by decide) (fun _ h => h.upto ⟨rfl, trivial⟩) ?_
  refine dg_off (i := 10) rfl (by kernel_rfl) (by kernel_rfl) (by kernel_rfl) [] (by kernel_rfl) (fun _ _ _ h => h) rfl rfl rfl rfl (by decide) rfl (by decide) (fun _ h => h.upto ⟨rfl, trivial⟩) ?_
  refine dg_off (i := 11) rfl (by kernel_rfl) (by kernel_rfl) (by kernel_rfl) [] (by kernel_rfl) (fun _ _ _ h => h) rfl rfl rfl rfl (by decide) rfl (by decide) (fun _ h => h.upto ⟨rfl, trivial⟩) ?_
  refine dg_q (i := 12) rfl (by kernel_rfl) (by kernel_rfl) (by kernel_rfl) [] (by kernel_rfl) (fun _ _ _ h => h) rfl rfl (by decide) (fun _ h => h.upto ⟨rfl, trivial⟩) (qt_pickF rfl rfl rfl) ?_
  refine dg_q (i := 13) rfl (by kernel_rfl) (by kernel_rfl) (by kernel_rfl) [] (by kernel_rfl) (fun _ _ _ h => h) rfl rfl (by decide) (fun _ h => h.upto ⟨rfl, trivial⟩) (qt_move rfl rfl) ?_
  refine dg_off (i := 14) rfl (by kernel_rfl) (by kernel_rfl) (by kernel_rfl) [] (by kernel_rfl) (fun _ _ _ h => h) rfl rfl rfl rfl (by decide) rfl (by decide) (fun _ h => h.upto ⟨rfl, trivial⟩) ?_
  refine dg_off (i := 15) rfl (by kernel_rfl) (by kernel_rfl) (by kernel_rfl) [] (by kernel_rfl) (fun _ _ _ h => h) rfl rfl rfl rfl (by decide) rfl (by decide) (fun _ h => h.upto ⟨rfl, trivial⟩) ?_
  refine dg_off (i := 16) rfl (by kernel_rfl) (by kernel_rfl) (by kernel_rfl) [] (by kernel_rfl) (fun _ _ _ h => h) rfl rfl rfl rfl (by decide) rfl (by decide) (fun _ h => h.upto ⟨rfl, trivial⟩) ?_
  refine dg_q (i := 17) rfl (by kernel_rfl) (by kernel_rfl) (by kernel_rfl) [] (by kernel_rfl) (fun _ _ _ h => h) rfl rfl (by decide) (fun _ h => h.upto ⟨rfl, trivial⟩) (qt_pickF rfl rfl rfl) ?_
  refine dg_q (i := 18) rfl (by kernel_rfl) (by kernel_rfl) (by kernel_rfl) [] (by kernel_rfl) (fun _ _ _ h => h) rfl rfl (by decide) (fun _ h => h.upto ⟨rfl, trivial⟩) (qt_move rfl rfl) ?_
  refine dg_off (i := 19) rfl (by kernel_rfl) (by kernel_rfl) (by kernel_rfl) [] (by kernel_rfl) (fun _ _ _ h => h) rfl rfl rfl rfl (by decide) rfl (by decide) (fun _ h => h.upto ⟨rfl, trivial⟩) ?_
  refine dg_off (i := 20) rfl (by kernel_rfl) (by kernel_rfl) (by kernel_rfl) [] (by kernel_rfl) (fun _ _ _ h => h) rfl rfl rfl rfl (by decide) rfl (by decide) (fun _ h => h.upto ⟨rfl, trivial⟩) ?_
  refine dg_off (i := 21) rfl (by kernel_rfl) (by kernel_rfl) (by kernel_rfl) [] (by kernel_rfl) (fun _ _ _ h => h) rfl rfl rfl rfl (by decide) rfl (by decide) (fun _ h => h.upto ⟨rfl, trivial⟩) ?_
  refine dg_off (i := 22) rfl (by kernel_rfl) (by kernel_rfl) (by kernel_rfl) [] (by kernel_rfl) (fun _ _ _ h => h) rfl rfl rfl rfl (by decide) rfl (by decide) (fun _ h => h.upto ⟨rfl, trivial⟩) ?_
  refine dg_off (i := 23) rfl (by kernel_rfl) (by kernel_rfl) (by kernel_rfl) [] (by kernel_rfl) (fun _ _ _ h => h) rfl rfl rfl rfl (by decide) rfl (by decide) (fun _ h => h.upto ⟨rfl, trivial⟩) ?_
  refine dg_off (i := 24) rfl (by kernel_rfl) (by kernel_rfl) (by kernel_rfl) [] (by kernel_rfl) (fun _ _ _ h => h) rfl rfl rfl rfl (by decide) rfl (by decide) (fun _ h => h.upto ⟨rfl, trivial⟩) ?_
  refine dg_off (i := 25) rfl (by kernel_rfl) (by kernel_rfl) (by kernel_rfl) [] (by kernel_rfl) (fun _ _ _ h => h) rfl rfl rfl rfl (by decide) rfl (by decide) (fun _ h => h.upto ⟨rfl, trivial⟩) ?_
  refine dg_off (i := 26) rfl (by kernel_rfl) (by kernel_rfl) (by kernel_rfl) [] (by kernel_rfl) (fun _ _ _ h => h) rfl rfl rfl rfl (by decide) rfl (by decide) (fun _ h => h.upto ⟨rfl, trivial⟩) ?_
  refine dg_q (i := 27) rfl (by kernel_rfl) (by kernel_rfl) (by kernel_rfl) [] (by kernel_rfl) (fun _ _ _ h => h) rfl rfl (by decide) (fun _ h => h.upto ⟨rfl, trivial⟩) (qt_pickF rfl rfl rfl) ?_
  refine dg_q (i := 28) rfl (by kernel_rfl) (by kernel_rfl) (by kernel_rfl) [] (by kernel_rfl) (fun _ _ _ h => h) rfl rfl (by decide) (fun _ h => h.upto ⟨rfl, trivial⟩) (qt_assign rfl rfl) ?_
  refine dg_done (by kernel_rfl) ?_
  refine norm_then ?_
  refine at_retc ?_
  refine at_ret1 rfl (.tmp rfl) ?_
  intro w' hs
  first | exact ⟨retB (fr_in ⟨by omega, by omega⟩ ⟨by omega, by omega⟩), hs.fin⟩ | exact ⟨retB (fr_no (by omega)), hs.fin⟩
theorem gcd_pos {a b : Int} (hb : ¬ b = 0) : 0 < Nat.gcd a.natAbs b.natAbs := Nat.gcd_pos_of_pos_right _ (by omega)
theorem mk_le (a b : Int) : mkA a b ≤ a.natAbs ∧ mkB a b ≤ b.natAbs := ⟨Nat.div_le_self _ _, Nat.div_le_self _ _⟩
theorem MakeFrac_any (a b : Int) (w : World) (ha : -4611686018427387904 ≤ a ∧ a ≤ 4611686018427387904) (hb : -4611686018427387904 ≤ b ∧ b ≤ 4611686018427387904) : Calls Try.prog 137 #[.int .i64 a, .int .i64 b] w fun e w' => e = .returned (.tuple #[pV (mkP a b), .int .i64 (mkC a b)]) ∧ Over w w' := by
 refine walk_from (m := 48) (Try.func137) rfl rfl (Nat.le_of_ble_eq_true rfl) ?_
 refine at_seq ?_
 refine at_region ?_
 refine at_op rfl ?_
 refine op_alloc rfl tyz_impl_Frac rfl (by decide) (fun b1 => ?_)
 refine at_rsE (by simp only [ya,yb,yc,yd,Value.cells,ye]; rfl) ?_
 refine at_q rfl rfl (by decide) (qt_assign rfl rfl) ?_
 refine at_end ?_
 refine at_seq ?_
 refine at_seq ?_
 refine at_region ?_
 refine at_q rfl rfl (by decide) (qt_move rfl rfl) ?_
 refine at_q rfl rfl (by decide) (qt_eql rfl rfl rfl) ?_
 refine at_end ?_
 refine at_cond rfl (fun c1 => ?_) (fun c1 => ?_)
 ·try simp only [za,zb,zc,zd,ze,zf,Bool.not_true,Bool.not_false,zg,zh,ne_eq,zi,zj] at c1
  refine at_seq ?_
  refine at_region ?_
  refine at_q rfl rfl (by decide) (qt_build rfl rfl (bld_impl_Frac_)) ?_
  refine at_op rfl ?_
  refine op_storeAll' (k := 0) rfl rfl rfl rfl (rfl) (by rfl) tyz_impl_Frac.szx rfl rfl rfl ?_
  refine at_rsE (by simp only [ya,yb,yc,yd,Value.cells,ye]; rfl) ?_
  refine at_q rfl rfl (by decide) (qt_assign rfl rfl) ?_
  refine at_end ?_
  refine at_retc ?_
  refine then_ret ?_
  refine at_ret2 rfl (rvCelS (k := 0) rfl tys_impl_Frac rfl rfl) (.tmp rfl) ?_
  intro w' hs
  obtain ⟨e1, e2⟩ := mk_zero a
  exact ⟨by rw [c1, e1, e2], hs.fin⟩
 ·try simp only [za,zb,zc,zd,ze,zf,Bool.not_true,Bool.not_false,zg,zh,ne_eq,zi,zj] at c1
  have hg := gcd_pos (a := a) c1
  obtain ⟨l1, l2⟩ := mk_le a b
  refine at_skip ?_
  refine norm_then ?_
  refine at_seq ?_
  refine at_region ?_
  refine at_q rfl rfl (by decide) (qt_move rfl rfl) ?_
  refine at_q rfl rfl (by decide) (qt_call ok_impl_absU rfl rfl (fun w1 hs => absU_any a w1 (by omega) (by omega))) ?_
  refine at_q rfl rfl (by decide) (qt_move rfl rfl) ?_
  refine at_q rfl rfl (by decide) (qt_call ok_impl_absU rfl rfl (fun w1 hs => absU_any b w1 (by omega) (by omega))) ?_
  refine at_q rfl rfl (by decide) (qt_assign rfl rfl) ?_
  refine at_q rfl rfl (by decide) (qt_assign rfl rfl) ?_
  refine at_end ?_
  refine at_seq ?_
  refine at_region ?_
  refine at_q rfl rfl (by decide) (qt_move rfl rfl) ?_
  refine at_q rfl rfl (by decide) (qt_move rfl rfl) ?_
  refine at_q rfl rfl (by decide) (qt_call ok_impl_gcd64 rfl rfl (fun w1 hs => gcd64_any a.natAbs b.natAbs w1 (by omega) (by omega))) ?_
  refine at_q rfl rfl (by decide) (qt_assign rfl rfl) ?_
  refine at_end ?_
  refine at_seq ?_
  refine dg_start mixed rfl ?_
  refine dg_phase 8 ?_
  refine dg_q (i := 0) rfl (by kernel_rfl) (by kernel_rfl) (by kernel_rfl) [] (by kernel_rfl) (fun _ _ _ h => h) rfl rfl (by decide) (fun _ h => h.upto ⟨rfl, trivial⟩) (qt_move rfl rfl) ?_
  refine dg_q (i := 1) rfl (by kernel_rfl) (by kernel_rfl) (by kernel_rfl) [] (by kernel_rfl) (fun _ _ _ h => h) rfl rfl (by decide) (fun _ h => h.upto ⟨rfl, trivial⟩) (qt_move rfl rfl) ?_
  refine dg_q (i := 2) rfl (by kernel_rfl) (by kernel_rfl) (by kernel_rfl) [] (by kernel_rfl) (fun _ _ _ h => h) rfl rfl (by decide) (fun _ h => h.upto ⟨rfl, trivial⟩) ((qt_quoU rfl rfl rfl hg (by omega)).as (show Value.int .u64 ((a.natAbs / Nat.gcd a.natAbs b.natAbs : Nat) : Int) = .int .u64 (mkA a b : Int) from rfl)) ?_
  refine dg_q (i := 3) rfl (by kernel_rfl) (by kernel_rfl) (by kernel_rfl) [] (by kernel_rfl) (fun _ _ _ h => h) rfl rfl (by decide) (fun _ h => h.upto ⟨rfl, trivial⟩) (qt_move rfl rfl) ?_
  refine dg_q (i := 4) rfl (by kernel_rfl) (by kernel_rfl) (by kernel_rfl) [] (by kernel_rfl) (fun _ _ _ h => h) rfl rfl (by decide) (fun _ h => h.upto ⟨rfl, trivial⟩) (qt_move rfl rfl) ?_
  refine dg_q (i := 5) rfl (by kernel_rfl) (by kernel_rfl) (by kernel_rfl) [] (by kernel_rfl) (fun _ _ _ h => h) rfl rfl (by decide) (fun _ h => h.upto ⟨rfl, trivial⟩) ((qt_quoU rfl rfl rfl hg (by omega)).as (show Value.int .u64 ((b.natAbs / Nat.gcd a.natAbs b.natAbs : Nat) : Int) = .int .u64 (mkB a b : Int) from rfl)) ?_
  refine dg_q (i := 6) rfl (by kernel_rfl) (by kernel_rfl) (by kernel_rfl) [] (by kernel_rfl) (fun _ _ _ h => h) rfl rfl (by decide) (fun _ h => h.upto ⟨rfl, trivial⟩) (qt_assign rfl rfl) ?_
  refine dg_q (i := 7) rfl (by kernel_rfl) (by kernel_rfl) (by kernel_rfl) [] (by kernel_rfl) (fun _ _ _ h => h) rfl rfl (by decide) (fun _ h => h.upto ⟨rfl, trivial⟩) (qt_assign rfl rfl) ?_
  refine dg_done (by kernel_rfl) ?_
  refine norm_then ?_
  refine at_seq ?_
  refine at_seq ?_
  refine at_region ?_
  refine at_q rfl rfl (by decide) (qt_move rfl rfl) ?_
  refine at_q rfl rfl (by decide) (qt_gtrU rfl rfl rfl) ?_
  refine at_q rfl rfl (by decide) (qt_move rfl rfl) ?_
  refine at_bsplit 28 rfl (fun g1 => ?_) (fun g1 => ?_)
  ·try simp only [za,zb,zc,zd,ze,zf,Bool.not_true,Bool.not_false,zg,zh,ne_eq,zi,zj] at g1
   refine at_off rfl rfl rfl rfl (by decide) rfl (by decide) ?_
   refine at_off rfl rfl rfl rfl (by decide) rfl (by decide) ?_
   refine at_q rfl rfl (by decide) (qt_pickT rfl rfl rfl) ?_
   refine at_end ?_
   refine at_yes rfl rfl ?_
   refine at_seq ?_
   refine at_region ?_
   refine at_q rfl rfl (by decide) (qt_build rfl rfl (bld_impl_Frac_)) ?_
   refine at_op rfl ?_
   refine op_storeAll' (k := 0) rfl rfl rfl rfl (rfl) (by rfl) tyz_impl_Frac.szx rfl rfl rfl ?_
   refine at_rsE (by simp only [ya,yb,yc,yd,Value.cells,ye]; rfl) ?_
   refine at_q rfl rfl (by decide) (qt_assign rfl rfl) ?_
   refine at_end ?_
   refine at_retc ?_
   refine then_ret ?_
   refine at_ret2 rfl (rvCelS (k := 0) rfl tys_impl_Frac rfl rfl) (.tmp rfl) ?_
   intro w' hs
   obtain ⟨e1, e2⟩ := mk_big (a := a) c1 (.inl (by omega))
   exact ⟨by rw [e1, e2], hs.fin⟩
  ·try simp only [za,zb,zc,zd,ze,zf,Bool.not_true,Bool.not_false,zg,zh,ne_eq,zi,zj] at g1
   refine at_on rfl rfl rfl rfl ?_
   refine op_q rfl (by decide) (qt_move rfl rfl) ?_
   refine at_on rfl rfl rfl rfl ?_
   refine op_q rfl (by decide) (qt_gtrU rfl rfl rfl) ?_
   refine at_q rfl rfl (by decide) (qt_pickF rfl rfl rfl) ?_
   refine at_end ?_
   refine at_cond rfl (fun c2 => ?_) (fun c2 => ?_)
   ·try simp only [za,zb,zc,zd,ze,zf,Bool.not_true,Bool.not_false,zg,zh,ne_eq,zi,zj] at c2
    refine at_seq ?_
    refine at_region ?_
    refine at_q rfl rfl (by decide) (qt_build rfl rfl (bld_impl_Frac_)) ?_
    refine at_op rfl ?_
    refine op_storeAll' (k := 0) rfl rfl rfl rfl (rfl) (by rfl) tyz_impl_Frac.szx rfl rfl rfl ?_
    refine at_rsE (by simp only [ya,yb,yc,yd,Value.cells,ye]; rfl) ?_
    refine at_q rfl rfl (by decide) (qt_assign rfl rfl) ?_
    refine at_end ?_
    refine at_retc ?_
    refine then_ret ?_
    refine at_ret2 rfl (rvCelS (k := 0) rfl tys_impl_Frac rfl rfl) (.tmp rfl) ?_
    intro w' hs
    obtain ⟨e1, e2⟩ := mk_big (a := a) c1 (.inr (by omega))
    exact ⟨by rw [e1, e2], hs.fin⟩
   ·try simp only [za,zb,zc,zd,ze,zf,Bool.not_true,Bool.not_false,zg,zh,ne_eq,zi,zj] at c2
    obtain ⟨e1, e2⟩ := mk_fit (a := a) c1 (by omega)
    refine at_skip ?_
    refine norm_then ?_
    refine at_seq ?_
    refine at_region ?_
    refine at_q rfl rfl (by decide) (qt_move rfl rfl) ?_
    refine at_q rfl rfl (by decide) (qt_convI rfl Try.underlying199 Try.underlying2 rfl (wrapI64 _ (by omega) (by omega))) ?_
    refine at_q rfl rfl (by decide) (qt_move rfl rfl) ?_
    refine at_q rfl rfl (by decide) (qt_convI rfl Try.underlying199 Try.underlying2 rfl (wrapI64 _ (by omega) (by omega))) ?_
    refine at_q rfl rfl (by decide) (qt_build rfl rfl (bld_impl_Frac_0_1 rfl rfl)) ?_
    refine at_op rfl ?_
    refine op_alloc rfl tyz_impl_Frac rfl (by decide) (fun b2 => ?_)
    refine at_rsE (by simp only [ya,yb,yc,yd,Value.cells,ye]; rfl) ?_
    refine at_op rfl ?_
    refine op_storeAll' (k := 1) rfl rfl rfl rfl (rfl) (by rfl) tyz_impl_Frac.szx rfl rfl rfl ?_
    refine at_rsE (by simp only [ya,yb,yc,yd,Value.cells,ye]; rfl) ?_
    refine at_end ?_
    refine at_seq ?_
    refine at_seq ?_
    refine at_region ?_
    refine at_q rfl rfl (by decide) (qt_move rfl rfl) ?_
    refine at_q rfl rfl (by decide) (qt_lss rfl rfl rfl) ?_
    refine at_q rfl rfl (by decide) (qt_move rfl rfl) ?_
    refine at_q rfl rfl (by decide) (qt_lss rfl rfl rfl) ?_
    refine at_q rfl rfl (by decide) (qt_neqB tyb_bool rfl rfl rfl) ?_
    refine at_end ?_
    refine at_cond rfl (fun c3 => ?_) (fun c3 => ?_)
    ·try simp only [za,zb,zc,zd,ze,zf,Bool.not_true,Bool.not_false,zg,zh,ne_eq,zi,zj] at c3
     rw [if_neg c3] at e2
     refine at_region ?_
     refine at_q rfl rfl (by decide) (qt_fieldAddr rfl rfl tyf_impl_Frac_0) ?_
     refine at_q rfl rfl (by decide) (qt_load1 rfl rfl ty1_int64 (rd1 (k := 1) rfl rfl)) ?_
     refine at_q rfl rfl (by decide) (qt_neg rfl rfl (by omega) (by omega)) ?_
     refine at_q rfl rfl (by decide) (qt_fieldAddr rfl rfl tyf_impl_Frac_0) ?_
     refine at_op rfl ?_
     refine op_store_2_0_1 (k := 1) rfl rfl rfl rfl (rfl) (by rfl) tyz_int64.szx rfl ?_
     refine at_rsE (by simp only [ya,yb,yc,yd,Value.cells,ye]; rfl) ?_
     refine at_end ?_
     refine at_seq ?_
     refine at_region ?_
     refine at_q rfl rfl (by decide) (qt_loadS rfl rfl tys_impl_Frac rfl (rdAll (k := 1) rfl)) ?_
     refine at_op rfl ?_
     refine op_storeAll' (k := 0) rfl rfl rfl rfl (rfl) (by rfl) tyz_impl_Frac.szx rfl rfl rfl ?_
     refine at_rsE (by simp only [ya,yb,yc,yd,Value.cells,ye]; rfl) ?_
     refine at_q rfl rfl (by decide) (qt_assign rfl rfl) ?_
     refine at_end ?_
     refine at_retc ?_
     refine at_ret2 rfl (rvCelS (k := 0) rfl tys_impl_Frac rfl rfl) (.tmp rfl) ?_
     intro w' hs
     exact ⟨by rw [e1, e2], hs.fin⟩
    ·try simp only [za,zb,zc,zd,ze,zf,Bool.not_true,Bool.not_false,zg,zh,ne_eq,zi,zj] at c3
     rw [if_pos c3] at e2
     refine at_skip ?_
     refine norm_then ?_
     refine at_seq ?_
     refine at_region ?_
     refine at_q rfl rfl (by decide) (qt_loadS rfl rfl tys_impl_Frac rfl (rdAll (k := 1) rfl)) ?_
     refine at_op rfl ?_
     refine op_storeAll' (k := 0) rfl rfl rfl rfl (rfl) (by rfl) tyz_impl_Frac.szx rfl rfl rfl ?_
     refine at_rsE (by simp only [ya,yb,yc,yd,Value.cells,ye]; rfl) ?_
     refine at_q rfl rfl (by decide) (qt_assign rfl rfl) ?_
     refine at_end ?_
     refine at_retc ?_
     refine at_ret2 rfl (rvCelS (k := 0) rfl tys_impl_Frac rfl rfl) (.tmp rfl) ?_
     intro w' hs
     exact ⟨by rw [e1, e2], hs.fin⟩
theorem ad_no {p q : Pn} (h : twoB p q = false) : adC p q = 1 ∧ adP p q = (0, 0) ∧ muC p q = 1 ∧ muP p q = (0, 0) := by simp [adC, adP, muC, muP, h]
theorem ad_yes {p q : Pn} (h : twoB p q = true) : adC p q = mkC (adN p q) (p.2 * q.2) ∧ adP p q = mkP (adN p q) (p.2 * q.2) ∧ muC p q = mkC (p.1 * q.1) (p.2 * q.2) ∧ muP p q = mkP (p.1 * q.1) (p.2 * q.2) := by simp [adC, adP, muC, muP, h]
theorem two_l {p q : Pn} (h : frB p = false) : twoB p q = false := by simp [twoB, h]
theorem two_r {p q : Pn} (h : frB q = false) : twoB p q = false := by simp [twoB, h]
theorem two_y {p q : Pn} (h : frB p = true) (h2 : frB q = true) : twoB p q = true := by simp [twoB, h, h2]
theorem AddFrac_any (p q : Pn) (w : World) : Calls Try.prog 96 #[pV p, pV q] w fun e w' => e = .returned (.tuple #[pV (adP p q), .int .i64 (adC p q)]) ∧ Over w w' := by
 refine walk_from (m := 34) (Try.func96) rfl rfl (Nat.le_of_ble_eq_true rfl) ?_
 refine at_seq ?_
 refine at_region ?_
 refine at_op rfl ?_
 refine op_box rfl rfl (rfl) rfl (by decide) (fun b1 => ?_)
 refine at_rsE (by simp only [ya,yb,yc,yd,Value.cells,ye]; rfl) ?_
 refine at_op rfl ?_
 refine op_box rfl rfl (rfl) rfl (by decide) (fun b2 => ?_)
 refine at_rsE (by simp only [ya,yb,yc,yd,Value.cells,ye]; rfl) ?_
 refine at_op rfl ?_
 refine op_alloc rfl tyz_impl_Frac rfl (by decide) (fun b3 => ?_)
 refine at_rsE (by simp only [ya,yb,yc,yd,Value.cells,ye]; rfl) ?_
 refine at_q rfl rfl (by decide) (qt_assign rfl rfl) ?_
 refine at_end ?_
 refine at_seq ?_
 refine at_seq ?_
 refine at_region ?_
 refine at_q rfl rfl (by decide) (qt_loadS rfl rfl tys_impl_Frac rfl (rdAll (k := 0) rfl)) ?_
 refine at_q rfl rfl (by decide) (qt_call ok_impl_ValidFrac rfl rfl (fun w1 hs => ValidFrac_any p w1)) ?_
 refine at_q rfl rfl (by decide) (qt_not rfl rfl) ?_
 refine at_q rfl rfl (by decide) (qt_move rfl rfl) ?_
 refine at_bsplit 9 rfl (fun g1 => ?_) (fun g1 => ?_)
 ·try simp only [za,zb,zc,zd,ze,zf,Bool.not_true,Bool.not_false,zg,zh,ne_eq,zi,zj] at g1
  refine at_off rfl rfl rfl rfl (by decide) rfl (by decide) ?_
  refine at_off rfl rfl rfl rfl (by decide) rfl (by decide) ?_
  refine at_off rfl rfl rfl rfl (by decide) rfl (by decide) ?_
  refine at_q rfl rfl (by decide) (qt_pickT rfl rfl rfl) ?_
  refine at_end ?_
  refine at_yes rfl rfl ?_
  refine at_seq ?_
  refine at_region ?_
  refine at_q rfl rfl (by decide) (qt_build rfl rfl (bld_impl_Frac_)) ?_
  refine at_op rfl ?_
  refine op_storeAll' (k := 2) rfl rfl rfl rfl (rfl) (by rfl) tyz_impl_Frac.szx rfl rfl rfl ?_
  refine at_rsE (by simp only [ya,yb,yc,yd,Value.cells,ye]; rfl) ?_
  refine at_q rfl rfl (by decide) (qt_assign rfl rfl) ?_
  refine at_end ?_
  refine at_retc ?_
  refine then_ret ?_
  refine at_ret2 rfl (rvCelS (k := 2) rfl tys_impl_Frac rfl rfl) (.tmp rfl) ?_
  intro w' hs
  obtain ⟨e1, e2, _⟩ := ad_no (two_l (q := q) g1)
  exact ⟨by rw [e1, e2], hs.fin⟩
 ·try simp only [za,zb,zc,zd,ze,zf,Bool.not_true,Bool.not_false,zg,zh,ne_eq,zi,zj] at g1
  refine at_on rfl rfl rfl rfl ?_
  refine op_q rfl (by decide) (qt_loadS rfl rfl tys_impl_Frac rfl (rdAll (k := 1) rfl)) ?_
  refine at_on rfl rfl rfl rfl ?_
  refine op_q rfl (by decide) (qt_call ok_impl_ValidFrac rfl rfl (fun w1 hs => ValidFrac_any q w1)) ?_
  refine at_on rfl rfl rfl rfl ?_
  refine op_q rfl (by decide) (qt_not rfl rfl) ?_
  refine at_q rfl rfl (by decide) (qt_pickF rfl rfl rfl) ?_
  refine at_end ?_
  refine at_cond rfl (fun c1 => ?_) (fun c1 => ?_)
  ·try simp only [za,zb,zc,zd,ze,zf,Bool.not_true,Bool.not_false,zg,zh,ne_eq,zi,zj] at c1
   refine at_seq ?_
   refine at_region ?_
   refine at_q rfl rfl (by decide) (qt_build rfl rfl (bld_impl_Frac_)) ?_
   refine at_op rfl ?_
   refine op_storeAll' (k := 2) rfl rfl rfl rfl (rfl) (by rfl) tyz_impl_Frac.szx rfl rfl rfl ?_
   refine at_rsE (by simp only [ya,yb,yc,yd,Value.cells,ye]; rfl) ?_
   refine at_q rfl rfl (by decide) (qt_assign rfl rfl) ?_
   refine at_end ?_
   refine at_retc ?_
   refine then_ret ?_
   refine at_ret2 rfl (rvCelS (k := 2) rfl tys_impl_Frac rfl rfl) (.tmp rfl) ?_
   intro w' hs
   obtain ⟨e1, e2, _⟩ := ad_no (two_r (p := p) c1)
   exact ⟨by rw [e1, e2], hs.fin⟩
  ·try simp only [za,zb,zc,zd,ze,zf,Bool.not_true,Bool.not_false,zg,zh,ne_eq,zi,zj] at c1
   have h2 := two_y g1 c1
   obtain ⟨e1, e2, _⟩ := ad_yes h2
   obtain ⟨o1, o2⟩ := two_ok h2
   obtain ⟨⟨b1, b2⟩, ⟨b3, b4⟩, b5, b6⟩ := ad_bd o1 o2
   refine at_skip ?_
   refine norm_then ?_
   refine at_seq ?_
   refine at_region ?_
   refine at_q rfl rfl (by decide) (qt_fieldAddr rfl rfl tyf_impl_Frac_0) ?_
   refine at_q rfl rfl (by decide) (qt_load1 rfl rfl ty1_int64 (rd1 (k := 0) rfl rfl)) ?_
   refine at_q rfl rfl (by decide) (qt_fieldAddr rfl rfl tyf_impl_Frac_1) ?_
   refine at_q rfl rfl (by decide) (qt_load1 rfl rfl ty1_int64 (rd1 (k := 1) rfl rfl)) ?_
   refine at_q rfl rfl (by decide) (qt_mul rfl rfl rfl (by omega) (by omega)) ?_
   refine at_q rfl rfl (by decide) (qt_fieldAddr rfl rfl tyf_impl_Frac_0) ?_
   refine at_q rfl rfl (by decide) (qt_load1 rfl rfl ty1_int64 (rd1 (k := 1) rfl rfl)) ?_
   refine at_q rfl rfl (by decide) (qt_fieldAddr rfl rfl tyf_impl_Frac_1) ?_
   refine at_q rfl rfl (by decide) (qt_load1 rfl rfl ty1_int64 (rd1 (k := 0) rfl rfl)) ?_
   refine at_q rfl rfl (by decide) (qt_mul rfl rfl rfl (by omega) (by omega)) ?_
   refine at_q rfl rfl (by decide) (qt_add rfl rfl rfl (by omega) (by omega)) ?_
   refine at_q rfl rfl (by decide) (qt_fieldAddr rfl rfl tyf_impl_Frac_1) ?_
   refine at_q rfl rfl (by decide) (qt_load1 rfl rfl ty1_int64 (rd1 (k := 0) rfl rfl)) ?_
   refine at_q rfl rfl (by decide) (qt_fieldAddr rfl rfl tyf_impl_Frac_1) ?_
   refine at_q rfl rfl (by decide) (qt_load1 rfl rfl ty1_int64 (rd1 (k := 1) rfl rfl)) ?_
   refine at_q rfl rfl (by decide) (qt_mul rfl rfl rfl (by omega) (by omega)) ?_
   refine at_q rfl rfl (by decide) (qt_call ok_impl_MakeFrac rfl rfl (fun w1 hs => MakeFrac_any (adN p q) (p.2 * q.2) w1 (by unfold adN; omega) (by omega))) ?_
   refine at_q rfl rfl (by decide) (qt_extract rfl rfl rfl) ?_
   refine at_q rfl rfl (by decide) (qt_extract rfl rfl rfl) ?_
   refine at_op rfl ?_
   refine op_storeAll' (k := 2) rfl rfl rfl rfl (rfl) (by rfl) tyz_impl_Frac.szx rfl rfl rfl ?_
   refine at_rsE (by simp only [ya,yb,yc,yd,Value.cells,ye]; rfl) ?_
   refine at_q rfl rfl (by decide) (qt_assign rfl rfl) ?_
   refine at_end ?_
   refine at_retc ?_
   refine at_ret2 rfl (rvCelS (k := 2) rfl tys_impl_Frac rfl rfl) (.tmp rfl) ?_
   intro w' hs
   exact ⟨by rw [e1, e2], hs.fin⟩
theorem MulFrac_any (p q : Pn) (w : World) : Calls Try.prog 138 #[pV p, pV q] w fun e w' => e = .returned (.tuple #[pV (muP p q), .int .i64 (muC p q)]) ∧ Over w w' := by
 refine walk_from (m := 28) (Try.func138) rfl rfl (Nat.le_of_ble_eq_true rfl) ?_
 refine at_seq ?_
 refine at_region ?_
 refine at_op rfl ?_
 refine op_box rfl rfl (rfl) rfl (by decide) (fun b1 => ?_)
 refine at_rsE (by simp only [ya,yb,yc,yd,Value.cells,ye]; rfl) ?_
 refine at_op rfl ?_
 refine op_box rfl rfl (rfl) rfl (by decide) (fun b2 => ?_)
 refine at_rsE (by simp only [ya,yb,yc,yd,Value.cells,ye]; rfl) ?_
 refine at_op rfl ?_
 refine op_alloc rfl tyz_impl_Frac rfl (by decide) (fun b3 => ?_)
 refine at_rsE (by simp only [ya,yb,yc,yd,Value.cells,ye]; rfl) ?_
 refine at_q rfl rfl (by decide) (qt_assign rfl rfl) ?_
 refine at_end ?_
 refine at_seq ?_
 refine at_seq ?_
 refine at_region ?_
 refine at_q rfl rfl (by decide) (qt_loadS rfl rfl tys_impl_Frac rfl (rdAll (k := 0) rfl)) ?_
 refine at_q rfl rfl (by decide) (qt_call ok_impl_ValidFrac rfl rfl (fun w1 hs => ValidFrac_any p w1)) ?_
 refine at_q rfl rfl (by decide) (qt_not rfl rfl) ?_
 refine at_q rfl rfl (by decide) (qt_move rfl rfl) ?_
 refine at_bsplit 9 rfl (fun g1 => ?_) (fun g1 => ?_)
 ·try simp only [za,zb,zc,zd,ze,zf,Bool.not_true,Bool.not_false,zg,zh,ne_eq,zi,zj] at g1
  refine at_off rfl rfl rfl rfl (by decide) rfl (by decide) ?_
  refine at_off rfl rfl rfl rfl (by decide) rfl (by decide) ?_
  refine at_off rfl rfl rfl rfl (by decide) rfl (by decide) ?_
  refine at_q rfl rfl (by decide) (qt_pickT rfl rfl rfl) ?_
  refine at_end ?_
  refine at_yes rfl rfl ?_
  refine at_seq ?_
  refine at_region ?_
  refine at_q rfl rfl (by decide) (qt_build rfl rfl (bld_impl_Frac_)) ?_
  refine at_op rfl ?_
  refine op_storeAll' (k := 2) rfl rfl rfl rfl (rfl) (by rfl) tyz_impl_Frac.szx rfl rfl rfl ?_
  refine at_rsE (by simp only [ya,yb,yc,yd,Value.cells,ye]; rfl) ?_
  refine at_q rfl rfl (by decide) (qt_assign rfl rfl) ?_
  refine at_end ?_
  refine at_retc ?_
  refine then_ret ?_
  refine at_ret2 rfl (rvCelS (k := 2) rfl tys_impl_Frac rfl rfl) (.tmp rfl) ?_
  intro w' hs
  obtain ⟨_, _, e1, e2⟩ := ad_no (two_l (q := q) g1)
  exact ⟨by rw [e1, e2], hs.fin⟩
 ·try simp only [za,zb,zc,zd,ze,zf,Bool.not_true,Bool.not_false,zg,zh,ne_eq,zi,zj] at g1
  refine at_on rfl rfl rfl rfl ?_
  refine op_q rfl (by decide) (qt_loadS rfl rfl tys_impl_Frac rfl (rdAll (k := 1) rfl)) ?_
  refine at_on rfl rfl rfl rfl ?_
  refine op_q rfl (by decide) (qt_call ok_impl_ValidFrac rfl rfl (fun w1 hs => ValidFrac_any q w1)) ?_
  refine at_on rfl rfl rfl rfl ?_
  refine op_q rfl (by decide) (qt_not rfl rfl) ?_
  refine at_q rfl rfl (by decide) (qt_pickF rfl rfl rfl) ?_
  refine at_end ?_
  refine at_cond rfl (fun c1 => ?_) (fun c1 => ?_)
  ·try simp only [za,zb,zc,zd,ze,zf,Bool.not_true,Bool.not_false,zg,zh,ne_eq,zi,zj] at c1
   refine at_seq ?_
   refine at_region ?_
   refine at_q rfl rfl (by decide) (qt_build rfl rfl (bld_impl_Frac_)) ?_
   refine at_op rfl ?_
   refine op_storeAll' (k := 2) rfl rfl rfl rfl (rfl) (by rfl) tyz_impl_Frac.szx rfl rfl rfl ?_
   refine at_rsE (by simp only [ya,yb,yc,yd,Value.cells,ye]; rfl) ?_
   refine at_q rfl rfl (by decide) (qt_assign rfl rfl) ?_
   refine at_end ?_
   refine at_retc ?_
   refine then_ret ?_
   refine at_ret2 rfl (rvCelS (k := 2) rfl tys_impl_Frac rfl rfl) (.tmp rfl) ?_
   intro w' hs
   obtain ⟨_, _, e1, e2⟩ := ad_no (two_r (p := p) c1)
   exact ⟨by rw [e1, e2], hs.fin⟩
  ·try simp only [za,zb,zc,zd,ze,zf,Bool.not_true,Bool.not_false,zg,zh,ne_eq,zi,zj] at c1
   have h2 := two_y g1 c1
   obtain ⟨_, _, e1, e2⟩ := ad_yes h2
   obtain ⟨o1, o2⟩ := two_ok h2
   obtain ⟨b7, b8⟩ := mu_bd o1 o2
   obtain ⟨_, _, b5, b6⟩ := ad_bd o1 o2
   refine at_skip ?_
   refine norm_then ?_
   refine at_seq ?_
   refine at_region ?_
   refine at_q rfl rfl (by decide) (qt_fieldAddr rfl rfl tyf_impl_Frac_0) ?_
   refine at_q rfl rfl (by decide) (qt_load1 rfl rfl ty1_int64 (rd1 (k := 0) rfl rfl)) ?_
   refine at_q rfl rfl (by decide) (qt_fieldAddr rfl rfl tyf_impl_Frac_0) ?_
   refine at_q rfl rfl (by decide) (qt_load1 rfl rfl ty1_int64 (rd1 (k := 1) rfl rfl)) ?_
   refine at_q rfl rfl (by decide) (qt_mul rfl rfl rfl (by omega) (by omega)) ?_
   refine at_q rfl rfl (by decide) (qt_fieldAddr rfl rfl tyf_impl_Frac_1) ?_
   refine at_q rfl rfl (by decide) (qt_load1 rfl rfl ty1_int64 (rd1 (k := 0) rfl rfl)) ?_
   refine at_q rfl rfl (by decide) (qt_fieldAddr rfl rfl tyf_impl_Frac_1) ?_
   refine at_q rfl rfl (by decide) (qt_load1 rfl rfl ty1_int64 (rd1 (k := 1) rfl rfl)) ?_
   refine at_q rfl rfl (by decide) (qt_mul rfl rfl rfl (by omega) (by omega)) ?_
   refine at_q rfl rfl (by decide) (qt_call ok_impl_MakeFrac rfl rfl (fun w1 hs => MakeFrac_any (p.1 * q.1) (p.2 * q.2) w1 (by omega) (by omega))) ?_
   refine at_q rfl rfl (by decide) (qt_extract rfl rfl rfl) ?_
   refine at_q rfl rfl (by decide) (qt_extract rfl rfl rfl) ?_
   refine at_op rfl ?_
   refine op_storeAll' (k := 2) rfl rfl rfl rfl (rfl) (by rfl) tyz_impl_Frac.szx rfl rfl rfl ?_
   refine at_rsE (by simp only [ya,yb,yc,yd,Value.cells,ye]; rfl) ?_
   refine at_q rfl rfl (by decide) (qt_assign rfl rfl) ?_
   refine at_end ?_
   refine at_retc ?_
   refine at_ret2 rfl (rvCelS (k := 2) rfl tys_impl_Frac rfl rfl) (.tmp rfl) ?_
   intro w' hs
   exact ⟨by rw [e1, e2], hs.fin⟩
theorem RoundFrac_any (p : Pn) (w : World) : Calls Try.prog 99 #[pV p] w fun e w' => e = .returned (.int .i64 (rfV p)) ∧ Over w w' := by
 refine walk_from (m := 11) (Try.func99) rfl rfl (Nat.le_of_ble_eq_true rfl) ?_
 refine at_seq ?_
 refine at_region ?_
 refine at_op rfl ?_
 refine op_box rfl rfl (rfl) rfl (by decide) (fun b1 => ?_)
 refine at_rsE (by simp only [ya,yb,yc,yd,Value.cells,ye]; rfl) ?_
 refine at_q rfl rfl (by decide) (qt_assign rfl rfl) ?_
 refine at_end ?_
 refine at_seq ?_
 refine at_seq ?_
 refine at_region ?_
 refine at_q rfl rfl (by decide) (qt_loadS rfl rfl tys_impl_Frac rfl (rdAll (k := 0) rfl)) ?_
 refine at_q rfl rfl (by decide) (qt_call ok_impl_ValidFrac rfl rfl (fun w1 hs => ValidFrac_any p w1)) ?_
 refine at_q rfl rfl (by decide) (qt_not rfl rfl) ?_
 refine at_end ?_
 refine at_cond rfl (fun c1 => ?_) (fun c1 => ?_)
 ·try simp only [za,zb,zc,zd,ze,zf,Bool.not_true,Bool.not_false,zg,zh,ne_eq,zi,zj] at c1
  refine at_seq ?_
  refine at_region ?_
  refine at_q rfl rfl (by decide) (qt_assign rfl rfl) ?_
  refine at_end ?_
  refine at_retc ?_
  refine then_ret ?_
  refine at_ret1 rfl (.tmp rfl) ?_
  intro w' hs
  exact ⟨by rw [rfV, if_neg (by rw [c1]; decide)], hs.fin⟩
 ·try simp only [za,zb,zc,zd,ze,zf,Bool.not_true,Bool.not_false,zg,zh,ne_eq,zi,zj] at c1
  have ho := fr_ok c1
  obtain ⟨d1, d2, n1, n2⟩ := ho
  refine at_skip ?_
  refine norm_then ?_
  refine at_seq ?_
  refine at_region ?_
  refine at_q rfl rfl (by decide) (qt_fieldAddr rfl rfl tyf_impl_Frac_0) ?_
  refine at_q rfl rfl (by decide) (qt_load1 rfl rfl ty1_int64 (rd1 (k := 0) rfl rfl)) ?_
  refine at_q rfl rfl (by decide) (qt_fieldAddr rfl rfl tyf_impl_Frac_1) ?_
  refine at_q rfl rfl (by decide) (qt_load1 rfl rfl ty1_int64 (rd1 (k := 0) rfl rfl)) ?_
  refine at_q rfl rfl (by decide) (qt_call ok_impl_DivRound rfl rfl (fun w1 hs => Calls.still (DivRound_any p.1 p.2 w1 d1 (by omega) (by omega) (by omega)))) ?_
  refine at_q rfl rfl (by decide) (qt_assign rfl rfl) ?_
  refine at_end ?_
  refine at_retc ?_
  refine at_ret1 rfl (.tmp rfl) ?_
  intro w' hs
  exact ⟨by rw [rfV, if_pos c1], hs.fin⟩
end Go.Proofs.Ytjhaakollekjeaa
