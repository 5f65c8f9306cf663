/- Points on segments: the program's and the reference's. -/
import Derived.Test.YtjhaakollekjeaaDat
import Derived.Test.YtjhaakollekjeaaLines
import Derived.Test.YtjhaakollekjeaaBounds
namespace Go.Proofs.Ytjhaakollekjeaa
open Go Go.RowKit
set_option linter.unusedVariables false
set_option linter.unusedSimpArgs false

end Go.Proofs.Ytjhaakollekjeaa
