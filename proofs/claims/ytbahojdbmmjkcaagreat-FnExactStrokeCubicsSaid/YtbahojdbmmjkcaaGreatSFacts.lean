import Derived.Test.YtbahojdbmmjkcaaGreatRows
import Derived.JoinedOf
import Derived.KernelRfl
set_option linter.unusedVariables false
set_option linter.unusedSimpArgs false
namespace Go.Proofs.YtbahojdbmmjkcaaGreat
open Go
set_option maxRecDepth 100000
theorem wt {a b:Bool} (h:a=true) (k:b=true) : (a&&b) =true:=by rw [h,k];rfl
theorem jhA:laidOutB Tryz.checked.prog=true:=by kernel_rfl
theorem jhB:mapsRowed Tryz.checked.prog=true:=by kernel_rfl
theorem jhC: (Tryz.checked.prog.stops== []) =true:=by kernel_rfl
theorem jhD: (Tryz.checked.prog.stopKnobs== []) =true:=by kernel_rfl
theorem jgN: (Rows.fnBooleansRow.plainKeys==Tryz.checked.prog.plainKeys) =true:=by kernel_rfl
theorem jgO:Tryz.checked.prog.stopsHeard=true:=by kernel_rfl
theorem jgP:Tryz.checked.prog.mayEnter=true:=by kernel_rfl
theorem jgQ: (Rows.fnBooleansRow.lifted==Tryz.checked.prog.liftsFinal) =true:=by kernel_rfl
theorem jgR: (Tryz.checked.prog.make==some Rows.fnBooleansRow.make) =true:=by kernel_rfl
end Go.Proofs.YtbahojdbmmjkcaaGreat
