import Derived.Test.YtjhaakollekjeaaR3
import Derived.BigRegion
namespace Go.Proofs.Ytjhaakollekjeaa
open Go.RowKit
set_option linter.unusedVariables false
set_option linter.unusedSimpArgs false

end Go.Proofs.Ytjhaakollekjeaa
