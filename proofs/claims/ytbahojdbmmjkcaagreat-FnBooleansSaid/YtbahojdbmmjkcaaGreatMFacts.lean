import Derived.Test.YtbahojdbmmjkcaaGreatRows
import Derived.JoinedOf
import Derived.KernelRfl
set_option linter.unusedVariables false
set_option linter.unusedSimpArgs false
namespace Go.Proofs.YtbahojdbmmjkcaaGreat
open Go
set_option maxRecDepth 100000
theorem Wt {a b:Bool} (h:a=true) (k:b=true) : (a&&b) =true:=by rw [h,k];rfl
theorem jiy:laidOutB Tryz.checked.prog=true:=by kernel_rfl
theorem jiz:mapsRowed Tryz.checked.prog=true:=by kernel_rfl
theorem jiA: (Tryz.checked.prog.stops== []) =true:=by kernel_rfl
theorem jiB: (Tryz.checked.prog.stopKnobs== []) =true:=by kernel_rfl
theorem jhI: (Rows.fnBooleansRow.plainKeys==Tryz.checked.prog.plainKeys) =true:=by kernel_rfl
theorem jhJ:Tryz.checked.prog.stopsHeard=true:=by kernel_rfl
theorem jhK:Tryz.checked.prog.mayEnter=true:=by kernel_rfl
theorem jhL: (Rows.fnBooleansRow.lifted==Tryz.checked.prog.liftsFinal) =true:=by kernel_rfl
theorem jhM: (Tryz.checked.prog.make==some Rows.fnBooleansRow.make) =true:=by kernel_rfl
end Go.Proofs.YtbahojdbmmjkcaaGreat
