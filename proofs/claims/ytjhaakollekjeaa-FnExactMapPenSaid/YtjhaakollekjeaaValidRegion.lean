/- Edges of regions; regions that are valid. -/
import Derived.Test.YtjhaakollekjeaaLegs
import Derived.Test.YtjhaakollekjeaaRegion
namespace Go.Proofs.Ytjhaakollekjeaa
open Go Go.RowKit
set_option linter.unusedVariables false
set_option linter.unusedSimpArgs false

def allTo (rs : List Ring_) : Nat → List Leg
 | 0 => []
 | k + 1 => allTo rs k ++ edgesR (rg rs k)
def edgesAll (rs : List Ring_) : List Leg := allTo rs rs.length

def regionB (rs : List Ring_) : Bool := decide (rs.length ≤ 40) && rs.all ringB && decide ((edgesAll rs).length ≤ 400)
end Go.Proofs.Ytjhaakollekjeaa
