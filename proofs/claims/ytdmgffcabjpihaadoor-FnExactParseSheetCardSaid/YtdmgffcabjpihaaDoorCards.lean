/-
  DERIVED. GIVEN WITH THE SEED: THE CARDS: each row of YtdmgffcabjpihaaDoorRows.lean that lists a variable, with what it lists TIED to the program's text (the seventh form; the later family's looks); each row that meets fmt, with fmt's text TOLD by the authors' own Lean function (tested against real Go, not proved from fmt's source: count such statements apart). THE CARD IS WHAT COUNTS. Prove the row's statement (the work); the ties are given (YtdmgffcabjpihaaDoorTie.lean); close each card by the builder's one call (the guide's Derived/Test/ToyasCard.lean, 'card_holds'). Laid BY PROGRAM, IN A SANDBOX (cutbox-door.mjs). By AI agents, Wed Nov 11 2026. No macro, syntax, notation, axiom, sorry.
-/
import Derived.Test.YtdmgffcabjpihaaDoorRows
import GoSem.ClaimSeven
namespace Go.Proofs.YtdmgffcabjpihaaDoor
namespace Rows

/-- THE TIED CARD OF 'laws.FnExactSheetText'. -/
def fnExactSheetTextCard : Claim7 := { stood := { row := fnExactSheetTextRow, standIns := [], harness := (true, "6382ddf2471d00287d494f8603e9c191eeea94ac7a2a6c87abdb5b744c01a359"), looks := false }, kinds := [], alts := [], laidByText := true, laidKinds := [.data, .data, .data], laidTests := true, laidLooks := .later }
def FnExactSheetTextCardSaid : Prop := Claim7.holds Tryd.pinned (.plain (OpenSpec.ofChange fnExactSheetTextSpec)) fnExactSheetTextCard

/-- THE TIED CARD OF 'laws.FnExactParseSheet'. -/
def fnExactParseSheetCard : Claim7 := { stood := { row := fnExactParseSheetRow, standIns := [], harness := (true, "6382ddf2471d00287d494f8603e9c191eeea94ac7a2a6c87abdb5b744c01a359"), looks := false }, kinds := [], alts := [], laidByText := true, laidKinds := [.data, .pinned], laidTests := true, laidLooks := .later }
def FnExactParseSheetCardSaid : Prop := Claim7.holds Tryd.pinned (.plain (OpenSpec.ofChange fnExactParseSheetSpec)) fnExactParseSheetCard

/-- THE SECOND FORM's CARD OF 'laws.FnExactSheetText'. -/
def fnExactSheetTextUptoCard : Claim7 := { stood := { row := fnExactSheetTextUptoRow, standIns := [], harness := (true, "6382ddf2471d00287d494f8603e9c191eeea94ac7a2a6c87abdb5b744c01a359"), looks := false }, kinds := [], alts := [], laidByText := true, laidKinds := [.data, .data, .data], laidTests := true, laidLooks := .later }
def FnExactSheetTextUptoCardSaid : Prop := Claim7.holds Tryd.pinned (.plain (OpenSpec.upto fnExactSheetTextSpec)) fnExactSheetTextUptoCard

/-- THE SECOND FORM's CARD OF 'laws.FnExactParseSheet'. -/
def fnExactParseSheetUptoCard : Claim7 := { stood := { row := fnExactParseSheetUptoRow, standIns := [], harness := (true, "6382ddf2471d00287d494f8603e9c191eeea94ac7a2a6c87abdb5b744c01a359"), looks := false }, kinds := [], alts := [], laidByText := true, laidKinds := [.data, .pinned], laidTests := true, laidLooks := .later }
def FnExactParseSheetUptoCardSaid : Prop := Claim7.holds Tryd.pinned (.plain (OpenSpec.upto fnExactParseSheetSpec)) fnExactParseSheetUptoCard
end Rows
end Go.Proofs.YtdmgffcabjpihaaDoor
