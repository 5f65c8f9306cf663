import Derived.Test.YtjbahemkhphndaaGreatRows
import Derived.JoinedOf
import Derived.KernelRfl
set_option linter.unusedVariables false
set_option linter.unusedSimpArgs false
namespace Go.Proofs.YtjbahemkhphndaaGreat
open Go
set_option maxRecDepth 100000
theorem Wn{a b:Bool}(h:a=true)(k:b=true):(a&&b)=true:=by rw[h,k];rfl
theorem jk3:laidOutB Tryz.checked.prog=true:=by kernel_rfl
theorem jk4:mapsRowed Tryz.checked.prog=true:=by kernel_rfl
theorem jk5:(Tryz.checked.prog.stops==[])=true:=by kernel_rfl
theorem jk6:(Tryz.checked.prog.stopKnobs==[])=true:=by kernel_rfl
theorem jj6:(Rows.fnNestingRow.plainKeys==Tryz.checked.prog.plainKeys)=true:=by kernel_rfl
theorem jj7:Tryz.checked.prog.stopsHeard=true:=by kernel_rfl
theorem jj8:Tryz.checked.prog.mayEnter=true:=by kernel_rfl
theorem jj9:(Rows.fnNestingRow.lifted==Tryz.checked.prog.liftsFinal)=true:=by kernel_rfl
theorem jka:(Tryz.checked.prog.make==some Rows.fnNestingRow.make)=true:=by kernel_rfl
end Go.Proofs.YtjbahemkhphndaaGreat
