/- How often edges go around a point; whether a point is on one: the program's and the reference's. -/
import Derived.Test.YtjhaakollekjeaaOn
import Derived.Test.YtjhaakollekjeaaValidRegion
namespace Go.Proofs.Ytjhaakollekjeaa
open Go Go.RowKit
set_option linter.unusedVariables false
set_option linter.unusedSimpArgs false

section
variable {w : World} {w0 : Bs} {Rs : List Res}
end

end Go.Proofs.Ytjhaakollekjeaa
