/-
  DERIVED. GIVEN WITH THE SEED: THE CARDS: each row of YtpghcnfeeakcpaaDoorRows.lean that lists a variable, with what it lists TIED to the program's text (the seventh form; the later family's looks); each row that meets fmt, with fmt's text TOLD by the authors' own Lean function (tested against real Go, not proved from fmt's source: count such statements apart). THE CARD IS WHAT COUNTS. Prove the row's statement (the work); the ties are given (YtpghcnfeeakcpaaDoorTie.lean); close each card by the builder's one call (the guide's Derived/Test/ToyasCard.lean, 'card_holds'). Laid BY PROGRAM, IN A SANDBOX (cutbox-door.mjs). By AI agents, Wed Nov 11 2026. No macro, syntax, notation, axiom, sorry.
-/
import Derived.Test.YtpghcnfeeakcpaaDoorRows
import GoSem.ClaimSeven
namespace Go.Proofs.YtpghcnfeeakcpaaDoor
namespace Rows

/-- THE TIED CARD OF 'touchstonelaw14.ProbeNames'. -/
def probeNamesCard : Claim7 := { stood := { row := probeNamesRow, standIns := [], harness := (true, "d1450eadfdfbfa016e40aca3d0ae0c19db4190ae32263edd991dcf568a5580d1"), looks := false }, kinds := [], alts := [], laidByText := true, laidKinds := [.data, .pinned], laidTests := true, laidLooks := .later }
def ProbeNamesCardSaid : Prop := Claim7.holds Tryd.pinned (.plain (OpenSpec.ofChange probeNamesSpec)) probeNamesCard

/-- THE TIED CARD OF 'touchstonelaw05.ExpandNames'. -/
def expandNamesCard : Claim7 := { stood := { row := expandNamesRow, standIns := [], harness := (true, "d1450eadfdfbfa016e40aca3d0ae0c19db4190ae32263edd991dcf568a5580d1"), looks := false }, kinds := [], alts := [], laidByText := true, laidKinds := [.data, .data, .data], laidTests := true, laidLooks := .later }
def ExpandNamesCardSaid : Prop := Claim7.holds Tryd.pinned (.plain (OpenSpec.ofChange expandNamesSpec)) expandNamesCard

/-- THE SECOND FORM's CARD OF 'touchstonelaw14.ProbeNames'. -/
def probeNamesUptoCard : Claim7 := { stood := { row := probeNamesUptoRow, standIns := [], harness := (true, "d1450eadfdfbfa016e40aca3d0ae0c19db4190ae32263edd991dcf568a5580d1"), looks := false }, kinds := [], alts := [], laidByText := true, laidKinds := [.data, .pinned], laidTests := true, laidLooks := .later }
def ProbeNamesUptoCardSaid : Prop := Claim7.holds Tryd.pinned (.plain (OpenSpec.upto probeNamesSpec)) probeNamesUptoCard

/-- THE SECOND FORM's CARD OF 'touchstonelaw05.ExpandNames'. -/
def expandNamesUptoCard : Claim7 := { stood := { row := expandNamesUptoRow, standIns := [], harness := (true, "d1450eadfdfbfa016e40aca3d0ae0c19db4190ae32263edd991dcf568a5580d1"), looks := false }, kinds := [], alts := [], laidByText := true, laidKinds := [.data, .data, .data], laidTests := true, laidLooks := .later }
def ExpandNamesUptoCardSaid : Prop := Claim7.holds Tryd.pinned (.plain (OpenSpec.upto expandNamesSpec)) expandNamesUptoCard
end Rows
end Go.Proofs.YtpghcnfeeakcpaaDoor
