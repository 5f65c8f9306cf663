import Derived.Test.YtbahojdbmmjkcaaGreatRows
import Derived.JoinedOf
import Derived.KernelRfl
set_option linter.unusedVariables false
set_option linter.unusedSimpArgs false
namespace Go.Proofs.YtbahojdbmmjkcaaGreat
open Go
set_option maxRecDepth 100000
theorem V9 {a b:Bool} (h:a=true) (k:b=true) : (a&&b) =true:=by rw [h,k];rfl
theorem jfX:laidOutB Tryz.checked.prog=true:=by kernel_rfl
theorem jfY:mapsRowed Tryz.checked.prog=true:=by kernel_rfl
theorem jfZ: (Tryz.checked.prog.stops== []) =true:=by kernel_rfl
theorem jf0: (Tryz.checked.prog.stopKnobs== []) =true:=by kernel_rfl
theorem jfj: (Rows.fnBooleansRow.plainKeys==Tryz.checked.prog.plainKeys) =true:=by kernel_rfl
theorem jfk:Tryz.checked.prog.stopsHeard=true:=by kernel_rfl
theorem jfl:Tryz.checked.prog.mayEnter=true:=by kernel_rfl
theorem jfm: (Rows.fnBooleansRow.lifted==Tryz.checked.prog.liftsFinal) =true:=by kernel_rfl
theorem jfn: (Tryz.checked.prog.make==some Rows.fnBooleansRow.make) =true:=by kernel_rfl
end Go.Proofs.YtbahojdbmmjkcaaGreat
