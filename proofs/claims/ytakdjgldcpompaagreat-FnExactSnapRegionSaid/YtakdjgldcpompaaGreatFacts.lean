/- What the rows' last step asks of the program, once for a seat. -/
import Derived.Test.YtakdjgldcpompaaGreatRows
import Derived.JoinedOf
import Derived.KernelRfl
namespace Go.Proofs.YtakdjgldcpompaaGreat
open Go
set_option linter.unusedVariables false
set_option linter.unusedSimpArgs false
set_option maxRecDepth 100000
theorem andB {a b : Bool} (h : a = true) (k : b = true) : (a && b) = true := by rw [h, k]; rfl
theorem once1 : laidOutB Tryz.checked.prog = true := by kernel_rfl
theorem once2 : mapsRowed Tryz.checked.prog = true := by kernel_rfl
theorem once6 : (Tryz.checked.prog.stops == []) = true := by kernel_rfl
theorem once8 : (Tryz.checked.prog.stopKnobs == []) = true := by kernel_rfl
theorem once22 : (Rows.fnExactSnapRegionRow.plainKeys == Tryz.checked.prog.plainKeys) = true := by kernel_rfl
theorem once24 : Tryz.checked.prog.stopsHeard = true := by kernel_rfl
theorem once25 : Tryz.checked.prog.mayEnter = true := by kernel_rfl
theorem once26 : (Rows.fnExactSnapRegionRow.lifted == Tryz.checked.prog.liftsFinal) = true := by kernel_rfl
theorem once27 : (Tryz.checked.prog.make == some Rows.fnExactSnapRegionRow.make) = true := by kernel_rfl
end Go.Proofs.YtakdjgldcpompaaGreat
