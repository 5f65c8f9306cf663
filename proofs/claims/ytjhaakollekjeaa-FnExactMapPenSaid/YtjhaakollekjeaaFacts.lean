/- What the rows' last step asks of the program, once for a seat. -/
import Derived.Test.YtjhaakollekjeaaRows
import Derived.JoinedOf
import Derived.KernelRfl
namespace Go.Proofs.Ytjhaakollekjeaa
open Go
set_option linter.unusedVariables false
set_option linter.unusedSimpArgs false
set_option maxRecDepth 100000
theorem andB {a b : Bool} (h : a = true) (k : b = true) : (a && b) = true := by rw [h, k]; rfl
theorem once1 : laidOutB Try.checked.prog = true := by kernel_rfl
theorem once2 : mapsRowed Try.checked.prog = true := by kernel_rfl
theorem once6 : (Try.checked.prog.stops == []) = true := by kernel_rfl
theorem once8 : (Try.checked.prog.stopKnobs == []) = true := by kernel_rfl
theorem once22 : (Rows.fnExactMapPenRow.plainKeys == Try.checked.prog.plainKeys) = true := by kernel_rfl
theorem once24 : Try.checked.prog.stopsHeard = true := by kernel_rfl
theorem once25 : Try.checked.prog.mayEnter = true := by kernel_rfl
theorem once26 : (Rows.fnExactMapPenRow.lifted == Try.checked.prog.liftsFinal) = true := by kernel_rfl
theorem once27 : (Try.checked.prog.make == some Rows.fnExactMapPenRow.make) = true := by kernel_rfl
end Go.Proofs.Ytjhaakollekjeaa
