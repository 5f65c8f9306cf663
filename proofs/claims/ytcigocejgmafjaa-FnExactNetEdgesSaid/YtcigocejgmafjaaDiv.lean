/- Contracts of the divisions: rounded down, and to the nearest. -/
import Derived.Test.YtcigocejgmafjaaL2
namespace Go.Proofs.Ytcigocejgmafjaa
open Go.RowKit
set_option linter.unusedVariables false
set_option linter.unusedSimpArgs false

end Go.Proofs.Ytcigocejgmafjaa
