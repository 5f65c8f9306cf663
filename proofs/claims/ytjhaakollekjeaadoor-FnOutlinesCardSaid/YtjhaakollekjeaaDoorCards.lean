/-
  DERIVED. GIVEN WITH THE SEED: THE CARDS: each row of YtjhaakollekjeaaDoorRows.lean that lists a variable, with what it lists TIED to the program's text (the seventh form; the later family's looks); each row that meets fmt, with fmt's text TOLD by the authors' own Lean function (tested against real Go, not proved from fmt's source: count such statements apart). THE CARD IS WHAT COUNTS. Prove the row's statement (the work); the ties are given (YtjhaakollekjeaaDoorTie.lean); close each card by the builder's one call (the guide's Derived/Test/ToyasCard.lean, 'card_holds'). Laid BY PROGRAM, IN A SANDBOX (cutbox-door.mjs). By AI agents, Wed Nov 11 2026. No macro, syntax, notation, axiom, sorry.
-/
import Derived.Test.YtjhaakollekjeaaDoorRows
import GoSem.ClaimSeven
namespace Go.Proofs.YtjhaakollekjeaaDoor
namespace Rows

/-- THE TIED CARD OF 'laws.FnExactReadRegion'. -/
def fnExactReadRegionCard : Claim7 := { stood := { row := fnExactReadRegionRow, standIns := [], harness := (true, "744e20a2a061e6393062db61c7f911bc86f0295a02a02a1571dfb26876401501"), looks := false }, kinds := [], alts := [], laidByText := true, laidKinds := [.data, .pinned], laidTests := true, laidLooks := .later }
def FnExactReadRegionCardSaid : Prop := Claim7.holds Tryd.pinned (.plain (OpenSpec.ofChange fnExactReadRegionSpec)) fnExactReadRegionCard

/-- THE TIED CARD OF 'laws.FnOutlines'. -/
def fnOutlinesCard : Claim7 := { stood := { row := fnOutlinesRow, standIns := [], harness := (true, "744e20a2a061e6393062db61c7f911bc86f0295a02a02a1571dfb26876401501"), looks := false }, kinds := [], alts := [], laidByText := true, laidKinds := [.data, .pinned], laidTests := true, laidLooks := .later }
def FnOutlinesCardSaid : Prop := Claim7.holds Tryd.pinned (.plain (OpenSpec.ofChange fnOutlinesSpec)) fnOutlinesCard

/-- THE SECOND FORM's CARD OF 'laws.FnExactReadRegion'. -/
def fnExactReadRegionUptoCard : Claim7 := { stood := { row := fnExactReadRegionUptoRow, standIns := [], harness := (true, "744e20a2a061e6393062db61c7f911bc86f0295a02a02a1571dfb26876401501"), looks := false }, kinds := [], alts := [], laidByText := true, laidKinds := [.data, .pinned], laidTests := true, laidLooks := .later }
def FnExactReadRegionUptoCardSaid : Prop := Claim7.holds Tryd.pinned (.plain (OpenSpec.upto fnExactReadRegionSpec)) fnExactReadRegionUptoCard

/-- THE SECOND FORM's CARD OF 'laws.FnOutlines'. -/
def fnOutlinesUptoCard : Claim7 := { stood := { row := fnOutlinesUptoRow, standIns := [], harness := (true, "744e20a2a061e6393062db61c7f911bc86f0295a02a02a1571dfb26876401501"), looks := false }, kinds := [], alts := [], laidByText := true, laidKinds := [.data, .pinned], laidTests := true, laidLooks := .later }
def FnOutlinesUptoCardSaid : Prop := Claim7.holds Tryd.pinned (.plain (OpenSpec.upto fnOutlinesSpec)) fnOutlinesUptoCard
end Rows
end Go.Proofs.YtjhaakollekjeaaDoor
