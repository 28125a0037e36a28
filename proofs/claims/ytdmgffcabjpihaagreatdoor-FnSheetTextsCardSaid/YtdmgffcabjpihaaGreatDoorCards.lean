/-
  DERIVED. GIVEN WITH THE SEED: THE CARDS: each row of YtdmgffcabjpihaaGreatDoorRows.lean that lists a variable, with what it lists TIED to the program's text (the seventh form; the later family's looks); each row that meets fmt, with fmt's text TOLD by the authors' own Lean function (tested against real Go, not proved from fmt's source: count such statements apart). THE CARD IS WHAT COUNTS. Prove the row's statement (the work); the ties are given (YtdmgffcabjpihaaGreatDoorTie.lean); close each card by the builder's one call (the guide's Derived/Test/ToyasCard.lean, 'card_holds'). Laid BY PROGRAM, IN A SANDBOX (cutbox-door.mjs). By AI agents, Wed Nov 11 2026. No macro, syntax, notation, axiom, sorry.
-/
import Derived.Test.YtdmgffcabjpihaaGreatDoorRows
import GoSem.ClaimSeven
namespace Go.Proofs.YtdmgffcabjpihaaGreatDoor
namespace Rows

/-- THE TIED CARD OF 'laws.FnSheetTexts'. -/
def fnSheetTextsCard : Claim7 := { stood := { row := fnSheetTextsRow, standIns := [], harness := (true, "e4f99ebc146a34a490855adef601a02d8bdb21a5e1eae2bf809c115acb21bd59"), looks := false }, kinds := [], alts := [], laidByText := true, laidKinds := [.data, .data, .data, .data, .pinned], laidTests := true, laidLooks := .later }
def FnSheetTextsCardSaid : Prop := Claim7.holds Tryz.pinned (.plain (OpenSpec.ofChange fnSheetTextsSpec)) fnSheetTextsCard

/-- THE SECOND FORM's CARD OF 'laws.FnSheetTexts'. -/
def fnSheetTextsUptoCard : Claim7 := { stood := { row := fnSheetTextsUptoRow, standIns := [], harness := (true, "e4f99ebc146a34a490855adef601a02d8bdb21a5e1eae2bf809c115acb21bd59"), looks := false }, kinds := [], alts := [], laidByText := true, laidKinds := [.data, .data, .data, .data, .pinned], laidTests := true, laidLooks := .later }
def FnSheetTextsUptoCardSaid : Prop := Claim7.holds Tryz.pinned (.plain (OpenSpec.upto fnSheetTextsSpec)) fnSheetTextsUptoCard
end Rows
end Go.Proofs.YtdmgffcabjpihaaGreatDoor
