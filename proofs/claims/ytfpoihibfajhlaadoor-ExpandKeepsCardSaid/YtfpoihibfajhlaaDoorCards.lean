/-
  DERIVED. GIVEN WITH THE SEED: THE CARDS: each row of YtfpoihibfajhlaaDoorRows.lean that lists a variable, with what it lists TIED to the program's text (the seventh form; the later family's looks); each row that meets fmt, with fmt's text TOLD by the authors' own Lean function (tested against real Go, not proved from fmt's source: count such statements apart). THE CARD IS WHAT COUNTS. Prove the row's statement (the work); the ties are given (YtfpoihibfajhlaaDoorTie.lean); close each card by the builder's one call (the guide's Derived/Test/ToyasCard.lean, 'card_holds'). Laid BY PROGRAM, IN A SANDBOX (cutbox-door.mjs). By AI agents, Wed Nov 11 2026. No macro, syntax, notation, axiom, sorry.
-/
import Derived.Test.YtfpoihibfajhlaaDoorRows
import GoSem.ClaimSeven
namespace Go.Proofs.YtfpoihibfajhlaaDoor
namespace Rows

/-- THE TIED CARD OF 'touchstonelaw05.ExpandSplits'. -/
def expandSplitsCard : Claim7 := { stood := { row := expandSplitsRow, standIns := [], harness := (true, "247848d92c7c1d20b5841d61cc9d0582ad6bf7b816ed61a07aa8e35bb9466984"), looks := false }, kinds := [], alts := [], laidByText := true, laidKinds := [.data, .data, .data], laidTests := true, laidLooks := .later }
def ExpandSplitsCardSaid : Prop := Claim7.holds Tryd.pinned (.plain (OpenSpec.ofChange expandSplitsSpec)) expandSplitsCard

/-- THE TIED CARD OF 'touchstonelaw05.ExpandTexts'. -/
def expandTextsCard : Claim7 := { stood := { row := expandTextsRow, standIns := [], harness := (true, "247848d92c7c1d20b5841d61cc9d0582ad6bf7b816ed61a07aa8e35bb9466984"), looks := false }, kinds := [], alts := [], laidByText := true, laidKinds := [.data, .data, .data], laidTests := true, laidLooks := .later }
def ExpandTextsCardSaid : Prop := Claim7.holds Tryd.pinned (.plain (OpenSpec.ofChange expandTextsSpec)) expandTextsCard

/-- THE TIED CARD OF 'touchstonelaw05.ExpandKeeps'. -/
def expandKeepsCard : Claim7 := { stood := { row := expandKeepsRow, standIns := [], harness := (true, "247848d92c7c1d20b5841d61cc9d0582ad6bf7b816ed61a07aa8e35bb9466984"), looks := false }, kinds := [], alts := [], laidByText := true, laidKinds := [.data, .data, .data], laidTests := true, laidLooks := .later }
def ExpandKeepsCardSaid : Prop := Claim7.holds Tryd.pinned (.plain (OpenSpec.ofChange expandKeepsSpec)) expandKeepsCard

/-- THE SECOND FORM's CARD OF 'touchstonelaw05.ExpandSplits'. -/
def expandSplitsUptoCard : Claim7 := { stood := { row := expandSplitsUptoRow, standIns := [], harness := (true, "247848d92c7c1d20b5841d61cc9d0582ad6bf7b816ed61a07aa8e35bb9466984"), looks := false }, kinds := [], alts := [], laidByText := true, laidKinds := [.data, .data, .data], laidTests := true, laidLooks := .later }
def ExpandSplitsUptoCardSaid : Prop := Claim7.holds Tryd.pinned (.plain (OpenSpec.upto expandSplitsSpec)) expandSplitsUptoCard

/-- THE SECOND FORM's CARD OF 'touchstonelaw05.ExpandTexts'. -/
def expandTextsUptoCard : Claim7 := { stood := { row := expandTextsUptoRow, standIns := [], harness := (true, "247848d92c7c1d20b5841d61cc9d0582ad6bf7b816ed61a07aa8e35bb9466984"), looks := false }, kinds := [], alts := [], laidByText := true, laidKinds := [.data, .data, .data], laidTests := true, laidLooks := .later }
def ExpandTextsUptoCardSaid : Prop := Claim7.holds Tryd.pinned (.plain (OpenSpec.upto expandTextsSpec)) expandTextsUptoCard

/-- THE SECOND FORM's CARD OF 'touchstonelaw05.ExpandKeeps'. -/
def expandKeepsUptoCard : Claim7 := { stood := { row := expandKeepsUptoRow, standIns := [], harness := (true, "247848d92c7c1d20b5841d61cc9d0582ad6bf7b816ed61a07aa8e35bb9466984"), looks := false }, kinds := [], alts := [], laidByText := true, laidKinds := [.data, .data, .data], laidTests := true, laidLooks := .later }
def ExpandKeepsUptoCardSaid : Prop := Claim7.holds Tryd.pinned (.plain (OpenSpec.upto expandKeepsSpec)) expandKeepsUptoCard
end Rows
end Go.Proofs.YtfpoihibfajhlaaDoor
