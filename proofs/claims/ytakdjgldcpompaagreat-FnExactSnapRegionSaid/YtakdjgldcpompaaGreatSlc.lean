/- What the laws' walks lean on: slices of points as arguments. -/
import Derived.Test.YtakdjgldcpompaaGreatLawKit
namespace Go.Proofs.YtakdjgldcpompaaGreat
open Go Go.RowKit
set_option linter.unusedVariables false

end Go.Proofs.YtakdjgldcpompaaGreat
