import Derived.Shelf.SlSortCmp.WholeK
import Derived.Test.YtjhaakollekjeaaF10
import Derived.Test.YtjhaakollekjeaaF6
import Derived.Test.YtjhaakollekjeaaF7
namespace Go.Proofs.Ytjhaakollekjeaa
open Go Go.Shelf
set_option linter.unusedVariables false
set_option linter.unusedSimpArgs false
end Go.Proofs.Ytjhaakollekjeaa

namespace Go.Proofs.Ytjhaakollekjeaa
open Go Go.RowKit
set_option linter.unusedVariables false

theorem szV_okk {l : Int} {n : Nat} (h : 0 ≤ szV l n) : (n : Int) ≤ l ∧ szV l n = l - n := by
 unfold szV at *
 split
 ·exact ⟨by assumption, rfl⟩
 ·rename_i h2; rw [if_neg h2] at h; omega
end Go.Proofs.Ytjhaakollekjeaa

namespace Go.Proofs.Ytjhaakollekjeaa
open Go Go.RowKit
set_option linter.unusedVariables false
set_option linter.unusedSimpArgs false
set_option maxRecDepth 100000
set_option maxHeartbeats 4000000
open Go Go.Shelf Go.RowKit
open Go Go.Shelf
open Go Go.Shelf Go.RowKit Go.Lib Go.Sort
set_option linter.unusedVariables false
set_option linter.unusedSimpArgs false

/-- Points far from the words' bounds. -/
structure Pw where
 val : Pn
 ok : bdW val
instance : Inhabited Pw := ⟨⟨(0, 0), ⟨⟨by decide, by decide⟩, by decide, by decide⟩⟩⟩
/-! ### A row sorted -/
/-- The points of a slice that is being closed up. -/
def clo (xs : List Pn) (i : Nat) : List Pn := compP (xs.take i) ++ xs.drop (compP (xs.take i)).length
end Go.Proofs.Ytjhaakollekjeaa

namespace Go.Proofs.Ytjhaakollekjeaa
open Go Go.RowKit
set_option linter.unusedVariables false
set_option linter.unusedSimpArgs false
set_option maxRecDepth 100000
set_option maxHeartbeats 4000000
set_option linter.unusedVariables false
set_option linter.unusedSimpArgs false

/-! ### Points in hulls -/
/-! ### Products -/
/-! ### The reference's -/
/-! ### Reflections -/
end Go.Proofs.Ytjhaakollekjeaa

namespace Go.Proofs.Ytjhaakollekjeaa
open Go Go.RowKit
set_option linter.unusedVariables false
set_option linter.unusedSimpArgs false

/-! ### MinkowskiSum -/
end Go.Proofs.Ytjhaakollekjeaa

namespace Go.Proofs.Ytjhaakollekjeaa
open Go Go.RowKit
set_option linter.unusedVariables false
set_option linter.unusedSimpArgs false

/-! ### Bounds of strokes -/
end Go.Proofs.Ytjhaakollekjeaa

namespace Go.Proofs.Ytjhaakollekjeaa
open Go Go.RowKit
set_option linter.unusedVariables false
set_option linter.unusedSimpArgs false
end Go.Proofs.Ytjhaakollekjeaa

namespace Go.Proofs.Ytjhaakollekjeaa
open Go Go.RowKit
set_option linter.unusedVariables false

/-! ### A region made, as a row and its rings -/
section
variable {n : Nat} {env : List (Nat × Value)} {w0 : Bs} {Rs : List Res} {K : Act → World → Prop}
end
end Go.Proofs.Ytjhaakollekjeaa

namespace Go.Proofs.Ytjhaakollekjeaa
open Go Go.RowKit
set_option linter.unusedVariables false
set_option linter.unusedSimpArgs false

/-! ### Legs -/
/-! ### Points in strokes -/
/-! ### Raw strokes -/
end Go.Proofs.Ytjhaakollekjeaa
