/- The part of a segment in a pixel. -/
import Derived.Test.YtcigocejgmafjaaMem
import Derived.Test.YtcigocejgmafjaaDat
import Derived.Test.YtcigocejgmafjaaCorner
namespace Go.Proofs.Ytcigocejgmafjaa
open Go Go.RowKit
set_option linter.unusedVariables false
set_option linter.unusedSimpArgs false

/-! ### The reference -/
end Go.Proofs.Ytcigocejgmafjaa
