import Derived.Test.YtjhaakollekjeaaR14
import Derived.Test.YtjhaakollekjeaaR19
import Derived.Test.YtjhaakollekjeaaR18
import Derived.Test.YtjhaakollekjeaaR12
namespace Go.Proofs.Ytjhaakollekjeaa
open Go Go.RowKit
set_option linter.unusedVariables false

section
variable {P : Program} {ops : Array Oper} {Q : Exit → Act → World → Prop} {md : Region.Mode} {B B' S : Base}

end
section
variable {P : Program} {n : Nat} {env : List (Nat × Value)} {w0 : Bs} {Rs : List Res} {ops : Array Oper} {Q : Exit → Act → World → Prop} {K : Act → World → Prop} {o : Oper}
variable {Rs0 Rs1 : List Res} {fuel g f : Nat} {listed : Array Bool}
end
section
variable {P : Program} {n : Nat} {env : List (Nat × Value)} {w0 : Bs} {Rs : List Res} {ops : Array Oper} {Q : Exit → Act → World → Prop} {K : Act → World → Prop} {o : Oper}
end
end Go.Proofs.Ytjhaakollekjeaa

namespace Go.Proofs.Ytjhaakollekjeaa
open Go Go.RowKit
set_option linter.unusedVariables false
set_option linter.unusedSimpArgs false
set_option maxRecDepth 100000
set_option maxHeartbeats 4000000
set_option linter.unusedVariables false
set_option linter.unusedSimpArgs false

/-! ### Chains -/
end Go.Proofs.Ytjhaakollekjeaa

namespace Go.Proofs.Ytjhaakollekjeaa
open Go Go.RowKit
set_option linter.unusedVariables false
set_option linter.unusedSimpArgs false
set_option maxRecDepth 100000
set_option maxHeartbeats 4000000
set_option linter.unusedVariables false
set_option linter.unusedSimpArgs false

section
variable {P : Program} {n : Nat} {env : List (Nat × Value)} {w0 : Bs} {Rs : List Res} {o : Oper}
variable {x y : Operand} {T T' : TypeId} {p q : Int}
theorem qt_eqlU (ho : o.op = .binOp .eql T x y T') (hx : ev env x = some (.int .u64 p)) (hy : ev env y = some (.int .u64 q)) : Qt P o n env w0 Rs (.bool (p == q)) := qt_of fun a w hf _ => by unfold execOp; simp only [ho, hf.ev hx, hf.ev hy]; simp [go_sem]
theorem qt_remU {a b : Nat} (ho : o.op = .binOp .rem T x y T') (hx : ev env x = some (.int .u64 (a : Int))) (hy : ev env y = some (.int .u64 (b : Int))) (hb : 0 < b) (ha : a < 18446744073709551616) : Qt P o n env w0 Rs (.int .u64 ((a % b : Nat) : Int)) :=
 qt_of fun ac w hf _ => by
  have hq0 : ¬ (b : Int) = 0 := by omega
  have h1 : (a : Int).tmod b = ((a % b : Nat) : Int) := by rw [Int.ofNat_tmod]
  have h2 := Nat.mod_le a b
  unfold execOp; simp only [ho, hf.ev hx, hf.ev hy]; simp [go_sem, hq0, h1, u64_in ((a % b : Nat) : Int) (by omega) (by omega), show ¬ b = 0 by omega]
theorem qt_quoU {a b : Nat} (ho : o.op = .binOp .quo T x y T') (hx : ev env x = some (.int .u64 (a : Int))) (hy : ev env y = some (.int .u64 (b : Int))) (hb : 0 < b) (ha : a < 18446744073709551616) : Qt P o n env w0 Rs (.int .u64 ((a / b : Nat) : Int)) :=
 qt_of fun ac w hf _ => by
  have hq0 : ¬ (b : Int) = 0 := by omega
  have h1 : (a : Int).tdiv b = ((a / b : Nat) : Int) := by rw [Int.ofNat_tdiv]
  have h2 := Nat.div_le_self a b
  have h3 : IntKind.u64.wrap ((a : Int) / (b : Int)) = (a : Int) / (b : Int) := u64_in _ (Int.ediv_nonneg (by omega) (by omega)) (by have := Int.natCast_ediv a b; omega)
  unfold execOp; simp only [ho, hf.ev hx, hf.ev hy]; simp [go_sem, hq0, h1, h3, show ¬ b = 0 by omega]
theorem qt_negU (ho : o.op = .unOp .neg T x) (hx : ev env x = some (.int .u64 p)) : Qt P o n env w0 Rs (.int .u64 (IntKind.u64.wrap (-p))) :=
 qt_of fun a w hf _ => by unfold execOp; simp only [ho, hf.ev hx]; simp [go_sem]
theorem qt_convW {k k' : IntKind} {d : TypeDesc} (ho : o.op = .convert T T' x) (hs : P.underlying T = some d) (hd : P.underlying T' = some (.int k')) (hx : ev env x = some (.int k p)) : Qt P o n env w0 Rs (.int k' (k'.wrap p)) :=
 qt_of fun a w hf _ => by
  have h1 : (convert T T' (.int k p)).run P w = .ok (.int k' (k'.wrap p)) w := by
   unfold convert
   simp only [Sem.run_bind, run_underlying hs, run_underlying hd, Result.andThen_ok]
   simp [Conv.intToInt]
  unfold execOp; simp only [ho, hf.ev hx]; simp [go_sem, h1]
end

section
variable {P : Program} {n : Nat} {env : List (Nat × Value)} {w0 : Bs} {Rs : List Res} {o : Oper} {K : Act → World → Prop} {Q : Exit → Act → World → Prop}
end

/-! ### What is computed -/
/-! ### The program -/
end Go.Proofs.Ytjhaakollekjeaa
