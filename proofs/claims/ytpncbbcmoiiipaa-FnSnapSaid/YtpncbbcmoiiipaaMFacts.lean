import Derived.Test.YtpncbbcmoiiipaaRows
import Derived.JoinedOf
import Derived.KernelRfl
set_option linter.unusedVariables false
set_option linter.unusedSimpArgs false
namespace Go.Proofs.Ytpncbbcmoiiipaa
open Go
set_option maxRecDepth 100000
theorem kD {a b:Bool} (h:a=true) (k:b=true) : (a&&b) =true:=by rw [h,k];rfl
theorem Bi:laidOutB Try.checked.prog=true:=by kernel_rfl
theorem Bj:mapsRowed Try.checked.prog=true:=by kernel_rfl
theorem Bl: (Try.checked.prog.stops== []) =true:=by kernel_rfl
theorem Bm: (Try.checked.prog.stopKnobs== []) =true:=by kernel_rfl
theorem OA: (Rows.fnSnapRow.plainKeys==Try.checked.prog.plainKeys) =true:=by kernel_rfl
theorem OB:Try.checked.prog.stopsHeard=true:=by kernel_rfl
theorem OC:Try.checked.prog.mayEnter=true:=by kernel_rfl
theorem OD: (Rows.fnSnapRow.lifted==Try.checked.prog.liftsFinal) =true:=by kernel_rfl
theorem OE: (Try.checked.prog.make==some Rows.fnSnapRow.make) =true:=by kernel_rfl
end Go.Proofs.Ytpncbbcmoiiipaa
