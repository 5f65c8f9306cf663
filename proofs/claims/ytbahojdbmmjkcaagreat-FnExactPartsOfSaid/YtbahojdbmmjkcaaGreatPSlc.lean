import Derived.Test.YtbahojdbmmjkcaaGreatPTo
set_option linter.unusedVariables false
set_option linter.unusedSimpArgs false
namespace Go.Proofs.YtbahojdbmmjkcaaGreat
open Go Go.RowKit
end Go.Proofs.YtbahojdbmmjkcaaGreat
