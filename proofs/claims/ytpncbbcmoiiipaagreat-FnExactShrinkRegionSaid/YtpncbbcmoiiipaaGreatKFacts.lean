import Derived.Test.YtpncbbcmoiiipaaGreatRows
import Derived.JoinedOf
import Derived.KernelRfl
set_option linter.unusedVariables false
set_option linter.unusedSimpArgs false
namespace Go.Proofs.YtpncbbcmoiiipaaGreat
open Go
set_option maxRecDepth 100000
theorem w6 {a b:Bool} (h:a=true) (k:b=true) : (a&&b) =true:=by rw [h,k];rfl
theorem jhE:laidOutB Tryz.checked.prog=true:=by kernel_rfl
theorem jhF:mapsRowed Tryz.checked.prog=true:=by kernel_rfl
theorem jhG: (Tryz.checked.prog.stops== []) =true:=by kernel_rfl
theorem jhH: (Tryz.checked.prog.stopKnobs== []) =true:=by kernel_rfl
theorem jgR: (Rows.fnExactStrokeOfRow.plainKeys==Tryz.checked.prog.plainKeys) =true:=by kernel_rfl
theorem jgS:Tryz.checked.prog.stopsHeard=true:=by kernel_rfl
theorem jgT:Tryz.checked.prog.mayEnter=true:=by kernel_rfl
theorem jgU: (Rows.fnExactStrokeOfRow.lifted==Tryz.checked.prog.liftsFinal) =true:=by kernel_rfl
theorem jgV: (Tryz.checked.prog.make==some Rows.fnExactStrokeOfRow.make) =true:=by kernel_rfl
end Go.Proofs.YtpncbbcmoiiipaaGreat
