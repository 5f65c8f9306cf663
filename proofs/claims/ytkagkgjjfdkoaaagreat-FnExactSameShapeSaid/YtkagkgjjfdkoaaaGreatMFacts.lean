import Derived.Test.YtkagkgjjfdkoaaaGreatRows
import Derived.JoinedOf
import Derived.KernelRfl
set_option linter.unusedVariables false
set_option linter.unusedSimpArgs false
namespace Go.Proofs.YtkagkgjjfdkoaaaGreat
open Go
set_option maxRecDepth 100000
theorem jey {a b:Bool} (h:a=true) (k:b=true) : (a&&b) =true:=by rw [h,k];rfl
theorem jeu:laidOutB Tryz.checked.prog=true:=by kernel_rfl
theorem jev:mapsRowed Tryz.checked.prog=true:=by kernel_rfl
theorem jew: (Tryz.checked.prog.stops== []) =true:=by kernel_rfl
theorem jex: (Tryz.checked.prog.stopKnobs== []) =true:=by kernel_rfl
theorem jee: (Rows.fnExactCombineRegionsRow.plainKeys==Tryz.checked.prog.plainKeys) =true:=by kernel_rfl
theorem jef:Tryz.checked.prog.stopsHeard=true:=by kernel_rfl
theorem jeg:Tryz.checked.prog.mayEnter=true:=by kernel_rfl
theorem jeh: (Rows.fnExactCombineRegionsRow.lifted==Tryz.checked.prog.liftsFinal) =true:=by kernel_rfl
theorem jei: (Tryz.checked.prog.make==some Rows.fnExactCombineRegionsRow.make) =true:=by kernel_rfl
end Go.Proofs.YtkagkgjjfdkoaaaGreat
