/- How two segments meet: plain law, the program's way. -/
import Derived.Test.YtjhaakollekjeaaOn
import Derived.Test.YtjhaakollekjeaaReg3
namespace Go.Proofs.Ytjhaakollekjeaa
open Go Go.RowKit
open Go.RowKit
set_option linter.unusedVariables false
set_option linter.unusedSimpArgs false

abbrev Pn := Int × Int
def tn (a b c : Pn) : Int := trn a.1 a.2 b.1 b.2 c.1 c.2
/-- A point that is valid; the order of points by X, then Y, as one number. -/
def bd2 (p : Pn) : Prop := (-262144 ≤ p.1 ∧ p.1 ≤ 262144) ∧ -262144 ≤ p.2 ∧ p.2 ≤ 262144
def key (p : Pn) : Int := p.1 * 1048576 + p.2
theorem sgn3 (n : Int) : (n < 0 ∧ sgn n = -1) ∨ (n = 0 ∧ sgn n = 0) ∨ (0 < n ∧ sgn n = 1) := by unfold sgn; split <;> (try split) <;> omega
abbrev pV (p : Pn) : Value := .agg #[.int .i64 p.1, .int .i64 p.2]
end Go.Proofs.Ytjhaakollekjeaa
