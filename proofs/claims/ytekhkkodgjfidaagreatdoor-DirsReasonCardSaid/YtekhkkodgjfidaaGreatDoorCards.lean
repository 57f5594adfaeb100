/-
  DERIVED. GIVEN WITH THE SEED: THE CARDS: each row of YtekhkkodgjfidaaGreatDoorRows.lean that lists a variable, with what it lists TIED to the program's text (the seventh form; the later family's looks); each row that meets fmt, with fmt's text TOLD by the authors' own Lean function (tested against real Go, not proved from fmt's source: count such statements apart). THE CARD IS WHAT COUNTS. Prove the row's statement (the work); the ties are given (YtekhkkodgjfidaaGreatDoorTie.lean); close each card by the builder's one call (the guide's Derived/Test/ToyasCard.lean, 'card_holds'). Laid BY PROGRAM, IN A SANDBOX (cutbox-door.mjs). By AI agents, Wed Nov 11 2026. No macro, syntax, notation, axiom, sorry.
-/
import Derived.Test.YtekhkkodgjfidaaGreatDoorRows
import GoSem.ClaimSeven
namespace Go.Proofs.YtekhkkodgjfidaaGreatDoor
namespace Rows

/-- THE TIED CARD OF 'touchstonelaw17.CheckTells'. -/
def checkTellsCard : Claim7 := { stood := { row := checkTellsRow, standIns := [], harness := (true, "0679355c5d83e2f5c8f2ba5ef4e35a00cc6b81defb62cf388d8d34640adcedbb"), looks := true }, kinds := [], alts := [], laidByText := true, laidKinds := [.data], laidTests := true, laidLooks := .later }
def CheckTellsCardSaid : Prop := Claim7.holds Tryz.pinned (.plain (OpenSpec.ofChange checkTellsSpec)) checkTellsCard

/-- THE TIED CARD OF 'touchstonelaw17.CheckMore'. -/
def checkMoreCard : Claim7 := { stood := { row := checkMoreRow, standIns := [], harness := (true, "0679355c5d83e2f5c8f2ba5ef4e35a00cc6b81defb62cf388d8d34640adcedbb"), looks := true }, kinds := [], alts := [], laidByText := true, laidKinds := [.data], laidTests := true, laidLooks := .later }
def CheckMoreCardSaid : Prop := Claim7.holds Tryz.pinned (.plain (OpenSpec.ofChange checkMoreSpec)) checkMoreCard

/-- THE TIED CARD OF 'touchstonelaw27.WitnessOf'. -/
def witnessOfCard : Claim7 := { stood := { row := witnessOfRow, standIns := [], harness := (true, "0679355c5d83e2f5c8f2ba5ef4e35a00cc6b81defb62cf388d8d34640adcedbb"), looks := true }, kinds := [], alts := [], laidByText := true, laidKinds := [.data, .data, .data], laidTests := true, laidLooks := .later }
def WitnessOfCardSaid : Prop := Claim7.holds Tryz.pinned (.plain (OpenSpec.ofChange witnessOfSpec)) witnessOfCard

/-- THE TIED CARD OF 'touchstonelaw12.DirsReason'. -/
def dirsReasonCard : Claim7 := { stood := { row := dirsReasonRow, standIns := [], harness := (true, "0679355c5d83e2f5c8f2ba5ef4e35a00cc6b81defb62cf388d8d34640adcedbb"), looks := true }, kinds := [], alts := [], laidByText := true, laidKinds := [.data, .pinned], laidTests := true, laidLooks := .later }
def DirsReasonCardSaid : Prop := Claim7.holds Tryz.pinned (.plain (OpenSpec.ofChange dirsReasonSpec)) dirsReasonCard

/-- THE SECOND FORM's CARD OF 'touchstonelaw17.CheckTells'. -/
def checkTellsUptoCard : Claim7 := { stood := { row := checkTellsUptoRow, standIns := [], harness := (true, "0679355c5d83e2f5c8f2ba5ef4e35a00cc6b81defb62cf388d8d34640adcedbb"), looks := true }, kinds := [], alts := [], laidByText := true, laidKinds := [.data], laidTests := true, laidLooks := .later }
def CheckTellsUptoCardSaid : Prop := Claim7.holds Tryz.pinned (.plain (OpenSpec.upto checkTellsSpec)) checkTellsUptoCard

/-- THE SECOND FORM's CARD OF 'touchstonelaw17.CheckMore'. -/
def checkMoreUptoCard : Claim7 := { stood := { row := checkMoreUptoRow, standIns := [], harness := (true, "0679355c5d83e2f5c8f2ba5ef4e35a00cc6b81defb62cf388d8d34640adcedbb"), looks := true }, kinds := [], alts := [], laidByText := true, laidKinds := [.data], laidTests := true, laidLooks := .later }
def CheckMoreUptoCardSaid : Prop := Claim7.holds Tryz.pinned (.plain (OpenSpec.upto checkMoreSpec)) checkMoreUptoCard

/-- THE SECOND FORM's CARD OF 'touchstonelaw27.WitnessOf'. -/
def witnessOfUptoCard : Claim7 := { stood := { row := witnessOfUptoRow, standIns := [], harness := (true, "0679355c5d83e2f5c8f2ba5ef4e35a00cc6b81defb62cf388d8d34640adcedbb"), looks := true }, kinds := [], alts := [], laidByText := true, laidKinds := [.data, .data, .data], laidTests := true, laidLooks := .later }
def WitnessOfUptoCardSaid : Prop := Claim7.holds Tryz.pinned (.plain (OpenSpec.upto witnessOfSpec)) witnessOfUptoCard

/-- THE SECOND FORM's CARD OF 'touchstonelaw12.DirsReason'. -/
def dirsReasonUptoCard : Claim7 := { stood := { row := dirsReasonUptoRow, standIns := [], harness := (true, "0679355c5d83e2f5c8f2ba5ef4e35a00cc6b81defb62cf388d8d34640adcedbb"), looks := true }, kinds := [], alts := [], laidByText := true, laidKinds := [.data, .pinned], laidTests := true, laidLooks := .later }
def DirsReasonUptoCardSaid : Prop := Claim7.holds Tryz.pinned (.plain (OpenSpec.upto dirsReasonSpec)) dirsReasonUptoCard
end Rows
end Go.Proofs.YtekhkkodgjfidaaGreatDoor
