/-
  DERIVED. GIVEN WITH THE SEED: THE CARDS: each row of YtmnbfgfgjmmhfaaGreatDoorRows.lean that lists a variable, with what it lists TIED to the program's text (the seventh form; the later family's looks); each row that meets fmt, with fmt's text TOLD by the authors' own Lean function (tested against real Go, not proved from fmt's source: count such statements apart). THE CARD IS WHAT COUNTS. Prove the row's statement (the work); the ties are given (YtmnbfgfgjmmhfaaGreatDoorTie.lean); close each card by the builder's one call (the guide's Derived/Test/ToyasCard.lean, 'card_holds'). Laid BY PROGRAM, IN A SANDBOX (cutbox-door.mjs). By AI agents, Wed Nov 11 2026. No macro, syntax, notation, axiom, sorry.
-/
import Derived.Test.YtmnbfgfgjmmhfaaGreatDoorRows
import GoSem.ClaimSeven
namespace Go.Proofs.YtmnbfgfgjmmhfaaGreatDoor
namespace Rows

/-- THE TIED CARD OF 'touchstonelaw17.CheckTells'. -/
def checkTellsCard : Claim7 := { stood := { row := checkTellsRow, standIns := [], harness := (true, "ee3b630d6a0f46aa668b54ecbfe8cdcd3764d28978ecae32219fafa44f2d7d7a"), looks := true }, kinds := [], alts := [], laidByText := true, laidKinds := [.data], laidTests := true, laidLooks := .later }
def CheckTellsCardSaid : Prop := Claim7.holds Tryz.pinned (.plain (OpenSpec.ofChange checkTellsSpec)) checkTellsCard

/-- THE TIED CARD OF 'touchstonelaw17.CheckMore'. -/
def checkMoreCard : Claim7 := { stood := { row := checkMoreRow, standIns := [], harness := (true, "ee3b630d6a0f46aa668b54ecbfe8cdcd3764d28978ecae32219fafa44f2d7d7a"), looks := true }, kinds := [], alts := [], laidByText := true, laidKinds := [.data], laidTests := true, laidLooks := .later }
def CheckMoreCardSaid : Prop := Claim7.holds Tryz.pinned (.plain (OpenSpec.ofChange checkMoreSpec)) checkMoreCard

/-- THE TIED CARD OF 'touchstonelaw16.IlParts'. -/
def ilPartsCard : Claim7 := { stood := { row := ilPartsRow, standIns := [], harness := (true, "ee3b630d6a0f46aa668b54ecbfe8cdcd3764d28978ecae32219fafa44f2d7d7a"), looks := true }, kinds := [], alts := [], laidByText := true, laidKinds := [.data, .data, .data], laidTests := true, laidLooks := .later }
def IlPartsCardSaid : Prop := Claim7.holds Tryz.pinned (.plain (OpenSpec.ofChange ilPartsSpec)) ilPartsCard

/-- THE TIED CARD OF 'touchstonelaw16.IlShows'. -/
def ilShowsCard : Claim7 := { stood := { row := ilShowsRow, standIns := [], harness := (true, "ee3b630d6a0f46aa668b54ecbfe8cdcd3764d28978ecae32219fafa44f2d7d7a"), looks := true }, kinds := [], alts := [], laidByText := true, laidKinds := [.data, .data, .data], laidTests := true, laidLooks := .later }
def IlShowsCardSaid : Prop := Claim7.holds Tryz.pinned (.plain (OpenSpec.ofChange ilShowsSpec)) ilShowsCard

/-- THE TIED CARD OF 'touchstonelaw16.IlLines'. -/
def ilLinesCard : Claim7 := { stood := { row := ilLinesRow, standIns := [], harness := (true, "ee3b630d6a0f46aa668b54ecbfe8cdcd3764d28978ecae32219fafa44f2d7d7a"), looks := true }, kinds := [], alts := [], laidByText := true, laidKinds := [.data, .data, .data], laidTests := true, laidLooks := .later }
def IlLinesCardSaid : Prop := Claim7.holds Tryz.pinned (.plain (OpenSpec.ofChange ilLinesSpec)) ilLinesCard

/-- THE SECOND FORM's CARD OF 'touchstonelaw17.CheckTells'. -/
def checkTellsUptoCard : Claim7 := { stood := { row := checkTellsUptoRow, standIns := [], harness := (true, "ee3b630d6a0f46aa668b54ecbfe8cdcd3764d28978ecae32219fafa44f2d7d7a"), looks := true }, kinds := [], alts := [], laidByText := true, laidKinds := [.data], laidTests := true, laidLooks := .later }
def CheckTellsUptoCardSaid : Prop := Claim7.holds Tryz.pinned (.plain (OpenSpec.upto checkTellsSpec)) checkTellsUptoCard

/-- THE SECOND FORM's CARD OF 'touchstonelaw17.CheckMore'. -/
def checkMoreUptoCard : Claim7 := { stood := { row := checkMoreUptoRow, standIns := [], harness := (true, "ee3b630d6a0f46aa668b54ecbfe8cdcd3764d28978ecae32219fafa44f2d7d7a"), looks := true }, kinds := [], alts := [], laidByText := true, laidKinds := [.data], laidTests := true, laidLooks := .later }
def CheckMoreUptoCardSaid : Prop := Claim7.holds Tryz.pinned (.plain (OpenSpec.upto checkMoreSpec)) checkMoreUptoCard

/-- THE SECOND FORM's CARD OF 'touchstonelaw16.IlParts'. -/
def ilPartsUptoCard : Claim7 := { stood := { row := ilPartsUptoRow, standIns := [], harness := (true, "ee3b630d6a0f46aa668b54ecbfe8cdcd3764d28978ecae32219fafa44f2d7d7a"), looks := true }, kinds := [], alts := [], laidByText := true, laidKinds := [.data, .data, .data], laidTests := true, laidLooks := .later }
def IlPartsUptoCardSaid : Prop := Claim7.holds Tryz.pinned (.plain (OpenSpec.upto ilPartsSpec)) ilPartsUptoCard

/-- THE SECOND FORM's CARD OF 'touchstonelaw16.IlShows'. -/
def ilShowsUptoCard : Claim7 := { stood := { row := ilShowsUptoRow, standIns := [], harness := (true, "ee3b630d6a0f46aa668b54ecbfe8cdcd3764d28978ecae32219fafa44f2d7d7a"), looks := true }, kinds := [], alts := [], laidByText := true, laidKinds := [.data, .data, .data], laidTests := true, laidLooks := .later }
def IlShowsUptoCardSaid : Prop := Claim7.holds Tryz.pinned (.plain (OpenSpec.upto ilShowsSpec)) ilShowsUptoCard

/-- THE SECOND FORM's CARD OF 'touchstonelaw16.IlLines'. -/
def ilLinesUptoCard : Claim7 := { stood := { row := ilLinesUptoRow, standIns := [], harness := (true, "ee3b630d6a0f46aa668b54ecbfe8cdcd3764d28978ecae32219fafa44f2d7d7a"), looks := true }, kinds := [], alts := [], laidByText := true, laidKinds := [.data, .data, .data], laidTests := true, laidLooks := .later }
def IlLinesUptoCardSaid : Prop := Claim7.holds Tryz.pinned (.plain (OpenSpec.upto ilLinesSpec)) ilLinesUptoCard
end Rows
end Go.Proofs.YtmnbfgfgjmmhfaaGreatDoor
