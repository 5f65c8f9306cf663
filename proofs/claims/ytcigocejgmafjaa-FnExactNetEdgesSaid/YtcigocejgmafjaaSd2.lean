/- Drawn regions in which a store may come ahead of what does not read its piece: two bases, one up to the store and one behind it. -/
import Derived.Test.YtcigocejgmafjaaSv
namespace Go.Proofs.Ytcigocejgmafjaa
open Go Go.RowKit
set_option linter.unusedVariables false

section
variable {P : Program} {ops : Array Oper} {Q : Exit → Act → World → Prop} {md : Region.Mode} {B B' S : Base}

end
section
variable {P : Program} {n : Nat} {env : List (Nat × Value)} {w0 : Bs} {Rs : List Res} {ops : Array Oper} {Q : Exit → Act → World → Prop} {K : Act → World → Prop} {o : Oper}
variable {Rs0 Rs1 : List Res} {fuel g f : Nat} {listed : Array Bool}
end
section
variable {P : Program} {n : Nat} {env : List (Nat × Value)} {w0 : Bs} {Rs : List Res} {ops : Array Oper} {Q : Exit → Act → World → Prop} {K : Act → World → Prop} {o : Oper}
end
end Go.Proofs.Ytcigocejgmafjaa
