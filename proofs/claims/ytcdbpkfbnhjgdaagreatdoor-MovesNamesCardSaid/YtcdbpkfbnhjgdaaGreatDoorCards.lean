/-
  DERIVED. GIVEN WITH THE SEED: THE CARDS: each row of YtcdbpkfbnhjgdaaGreatDoorRows.lean that lists a variable, with what it lists TIED to the program's text (the seventh form; the later family's looks); each row that meets fmt, with fmt's text TOLD by the authors' own Lean function (tested against real Go, not proved from fmt's source: count such statements apart). THE CARD IS WHAT COUNTS. Prove the row's statement (the work); the ties are given (YtcdbpkfbnhjgdaaGreatDoorTie.lean); close each card by the builder's one call (the guide's Derived/Test/ToyasCard.lean, 'card_holds'). Laid BY PROGRAM, IN A SANDBOX (cutbox-door.mjs). By AI agents, Wed Nov 11 2026. No macro, syntax, notation, axiom, sorry.
-/
import Derived.Test.YtcdbpkfbnhjgdaaGreatDoorRows
import GoSem.ClaimSeven
namespace Go.Proofs.YtcdbpkfbnhjgdaaGreatDoor
namespace Rows

/-- THE TIED CARD OF 'touchstonelaw12.DirsKeeps'. -/
def dirsKeepsCard : Claim7 := { stood := { row := dirsKeepsRow, standIns := [], harness := (true, "47f48efdbd43d6747f7ea2feced143437f27a6a3f6912a4d9dcef30fd9db9314"), looks := true }, kinds := [], alts := [], laidByText := true, laidKinds := [.data, .pinned], laidTests := true, laidLooks := .later }
def DirsKeepsCardSaid : Prop := Claim7.holds Tryz.pinned (.plain (OpenSpec.ofChange dirsKeepsSpec)) dirsKeepsCard

/-- THE TIED CARD OF 'touchstonelaw12.DirsNames'. -/
def dirsNamesCard : Claim7 := { stood := { row := dirsNamesRow, standIns := [], harness := (true, "47f48efdbd43d6747f7ea2feced143437f27a6a3f6912a4d9dcef30fd9db9314"), looks := true }, kinds := [], alts := [], laidByText := true, laidKinds := [.data, .pinned], laidTests := true, laidLooks := .later }
def DirsNamesCardSaid : Prop := Claim7.holds Tryz.pinned (.plain (OpenSpec.ofChange dirsNamesSpec)) dirsNamesCard

/-- THE TIED CARD OF 'touchstonelaw12.DirsThere'. -/
def dirsThereCard : Claim7 := { stood := { row := dirsThereRow, standIns := [], harness := (true, "47f48efdbd43d6747f7ea2feced143437f27a6a3f6912a4d9dcef30fd9db9314"), looks := true }, kinds := [], alts := [], laidByText := true, laidKinds := [.data, .pinned], laidTests := true, laidLooks := .later }
def DirsThereCardSaid : Prop := Claim7.holds Tryz.pinned (.plain (OpenSpec.ofChange dirsThereSpec)) dirsThereCard

/-- THE TIED CARD OF 'touchstonelaw13.MovesMany'. -/
def movesManyCard : Claim7 := { stood := { row := movesManyRow, standIns := [], harness := (true, "47f48efdbd43d6747f7ea2feced143437f27a6a3f6912a4d9dcef30fd9db9314"), looks := true }, kinds := [], alts := [], laidByText := true, laidKinds := [.data, .pinned], laidTests := true, laidLooks := .later }
def MovesManyCardSaid : Prop := Claim7.holds Tryz.pinned (.plain (OpenSpec.ofChange movesManySpec)) movesManyCard

/-- THE TIED CARD OF 'touchstonelaw13.MovesNames'. -/
def movesNamesCard : Claim7 := { stood := { row := movesNamesRow, standIns := [], harness := (true, "47f48efdbd43d6747f7ea2feced143437f27a6a3f6912a4d9dcef30fd9db9314"), looks := true }, kinds := [], alts := [], laidByText := true, laidKinds := [.data, .pinned], laidTests := true, laidLooks := .later }
def MovesNamesCardSaid : Prop := Claim7.holds Tryz.pinned (.plain (OpenSpec.ofChange movesNamesSpec)) movesNamesCard

/-- THE TIED CARD OF 'touchstonelaw13.MovesOne'. -/
def movesOneCard : Claim7 := { stood := { row := movesOneRow, standIns := [], harness := (true, "47f48efdbd43d6747f7ea2feced143437f27a6a3f6912a4d9dcef30fd9db9314"), looks := true }, kinds := [], alts := [], laidByText := true, laidKinds := [.data, .pinned], laidTests := true, laidLooks := .later }
def MovesOneCardSaid : Prop := Claim7.holds Tryz.pinned (.plain (OpenSpec.ofChange movesOneSpec)) movesOneCard

/-- THE TIED CARD OF 'touchstonelaw16.IlLines'. -/
def ilLinesCard : Claim7 := { stood := { row := ilLinesRow, standIns := [], harness := (true, "47f48efdbd43d6747f7ea2feced143437f27a6a3f6912a4d9dcef30fd9db9314"), looks := true }, kinds := [], alts := [], laidByText := true, laidKinds := [.data, .data, .data], laidTests := true, laidLooks := .later }
def IlLinesCardSaid : Prop := Claim7.holds Tryz.pinned (.plain (OpenSpec.ofChange ilLinesSpec)) ilLinesCard

/-- THE TIED CARD OF 'touchstonelaw16.IlNames'. -/
def ilNamesCard : Claim7 := { stood := { row := ilNamesRow, standIns := [], harness := (true, "47f48efdbd43d6747f7ea2feced143437f27a6a3f6912a4d9dcef30fd9db9314"), looks := true }, kinds := [], alts := [], laidByText := true, laidKinds := [.data, .data, .data], laidTests := true, laidLooks := .later }
def IlNamesCardSaid : Prop := Claim7.holds Tryz.pinned (.plain (OpenSpec.ofChange ilNamesSpec)) ilNamesCard

/-- THE TIED CARD OF 'touchstonelaw16.IlParts'. -/
def ilPartsCard : Claim7 := { stood := { row := ilPartsRow, standIns := [], harness := (true, "47f48efdbd43d6747f7ea2feced143437f27a6a3f6912a4d9dcef30fd9db9314"), looks := true }, kinds := [], alts := [], laidByText := true, laidKinds := [.data, .data, .data], laidTests := true, laidLooks := .later }
def IlPartsCardSaid : Prop := Claim7.holds Tryz.pinned (.plain (OpenSpec.ofChange ilPartsSpec)) ilPartsCard

/-- THE TIED CARD OF 'touchstonelaw16.IlShows'. -/
def ilShowsCard : Claim7 := { stood := { row := ilShowsRow, standIns := [], harness := (true, "47f48efdbd43d6747f7ea2feced143437f27a6a3f6912a4d9dcef30fd9db9314"), looks := true }, kinds := [], alts := [], laidByText := true, laidKinds := [.data, .data, .data], laidTests := true, laidLooks := .later }
def IlShowsCardSaid : Prop := Claim7.holds Tryz.pinned (.plain (OpenSpec.ofChange ilShowsSpec)) ilShowsCard

/-- THE TIED CARD OF 'touchstonelaw26.SpecNames'. -/
def specNamesCard : Claim7 := { stood := { row := specNamesRow, standIns := [], harness := (true, "47f48efdbd43d6747f7ea2feced143437f27a6a3f6912a4d9dcef30fd9db9314"), looks := true }, kinds := [], alts := [], laidByText := true, laidKinds := [.data, .pinned], laidTests := true, laidLooks := .later }
def SpecNamesCardSaid : Prop := Claim7.holds Tryz.pinned (.plain (OpenSpec.ofChange specNamesSpec)) specNamesCard

/-- THE SECOND FORM's CARD OF 'touchstonelaw12.DirsKeeps'. -/
def dirsKeepsUptoCard : Claim7 := { stood := { row := dirsKeepsUptoRow, standIns := [], harness := (true, "47f48efdbd43d6747f7ea2feced143437f27a6a3f6912a4d9dcef30fd9db9314"), looks := true }, kinds := [], alts := [], laidByText := true, laidKinds := [.data, .pinned], laidTests := true, laidLooks := .later }
def DirsKeepsUptoCardSaid : Prop := Claim7.holds Tryz.pinned (.plain (OpenSpec.upto dirsKeepsSpec)) dirsKeepsUptoCard

/-- THE SECOND FORM's CARD OF 'touchstonelaw12.DirsNames'. -/
def dirsNamesUptoCard : Claim7 := { stood := { row := dirsNamesUptoRow, standIns := [], harness := (true, "47f48efdbd43d6747f7ea2feced143437f27a6a3f6912a4d9dcef30fd9db9314"), looks := true }, kinds := [], alts := [], laidByText := true, laidKinds := [.data, .pinned], laidTests := true, laidLooks := .later }
def DirsNamesUptoCardSaid : Prop := Claim7.holds Tryz.pinned (.plain (OpenSpec.upto dirsNamesSpec)) dirsNamesUptoCard

/-- THE SECOND FORM's CARD OF 'touchstonelaw12.DirsThere'. -/
def dirsThereUptoCard : Claim7 := { stood := { row := dirsThereUptoRow, standIns := [], harness := (true, "47f48efdbd43d6747f7ea2feced143437f27a6a3f6912a4d9dcef30fd9db9314"), looks := true }, kinds := [], alts := [], laidByText := true, laidKinds := [.data, .pinned], laidTests := true, laidLooks := .later }
def DirsThereUptoCardSaid : Prop := Claim7.holds Tryz.pinned (.plain (OpenSpec.upto dirsThereSpec)) dirsThereUptoCard

/-- THE SECOND FORM's CARD OF 'touchstonelaw13.MovesMany'. -/
def movesManyUptoCard : Claim7 := { stood := { row := movesManyUptoRow, standIns := [], harness := (true, "47f48efdbd43d6747f7ea2feced143437f27a6a3f6912a4d9dcef30fd9db9314"), looks := true }, kinds := [], alts := [], laidByText := true, laidKinds := [.data, .pinned], laidTests := true, laidLooks := .later }
def MovesManyUptoCardSaid : Prop := Claim7.holds Tryz.pinned (.plain (OpenSpec.upto movesManySpec)) movesManyUptoCard

/-- THE SECOND FORM's CARD OF 'touchstonelaw13.MovesNames'. -/
def movesNamesUptoCard : Claim7 := { stood := { row := movesNamesUptoRow, standIns := [], harness := (true, "47f48efdbd43d6747f7ea2feced143437f27a6a3f6912a4d9dcef30fd9db9314"), looks := true }, kinds := [], alts := [], laidByText := true, laidKinds := [.data, .pinned], laidTests := true, laidLooks := .later }
def MovesNamesUptoCardSaid : Prop := Claim7.holds Tryz.pinned (.plain (OpenSpec.upto movesNamesSpec)) movesNamesUptoCard

/-- THE SECOND FORM's CARD OF 'touchstonelaw13.MovesOne'. -/
def movesOneUptoCard : Claim7 := { stood := { row := movesOneUptoRow, standIns := [], harness := (true, "47f48efdbd43d6747f7ea2feced143437f27a6a3f6912a4d9dcef30fd9db9314"), looks := true }, kinds := [], alts := [], laidByText := true, laidKinds := [.data, .pinned], laidTests := true, laidLooks := .later }
def MovesOneUptoCardSaid : Prop := Claim7.holds Tryz.pinned (.plain (OpenSpec.upto movesOneSpec)) movesOneUptoCard

/-- THE SECOND FORM's CARD OF 'touchstonelaw16.IlLines'. -/
def ilLinesUptoCard : Claim7 := { stood := { row := ilLinesUptoRow, standIns := [], harness := (true, "47f48efdbd43d6747f7ea2feced143437f27a6a3f6912a4d9dcef30fd9db9314"), looks := true }, kinds := [], alts := [], laidByText := true, laidKinds := [.data, .data, .data], laidTests := true, laidLooks := .later }
def IlLinesUptoCardSaid : Prop := Claim7.holds Tryz.pinned (.plain (OpenSpec.upto ilLinesSpec)) ilLinesUptoCard

/-- THE SECOND FORM's CARD OF 'touchstonelaw16.IlNames'. -/
def ilNamesUptoCard : Claim7 := { stood := { row := ilNamesUptoRow, standIns := [], harness := (true, "47f48efdbd43d6747f7ea2feced143437f27a6a3f6912a4d9dcef30fd9db9314"), looks := true }, kinds := [], alts := [], laidByText := true, laidKinds := [.data, .data, .data], laidTests := true, laidLooks := .later }
def IlNamesUptoCardSaid : Prop := Claim7.holds Tryz.pinned (.plain (OpenSpec.upto ilNamesSpec)) ilNamesUptoCard

/-- THE SECOND FORM's CARD OF 'touchstonelaw16.IlParts'. -/
def ilPartsUptoCard : Claim7 := { stood := { row := ilPartsUptoRow, standIns := [], harness := (true, "47f48efdbd43d6747f7ea2feced143437f27a6a3f6912a4d9dcef30fd9db9314"), looks := true }, kinds := [], alts := [], laidByText := true, laidKinds := [.data, .data, .data], laidTests := true, laidLooks := .later }
def IlPartsUptoCardSaid : Prop := Claim7.holds Tryz.pinned (.plain (OpenSpec.upto ilPartsSpec)) ilPartsUptoCard

/-- THE SECOND FORM's CARD OF 'touchstonelaw16.IlShows'. -/
def ilShowsUptoCard : Claim7 := { stood := { row := ilShowsUptoRow, standIns := [], harness := (true, "47f48efdbd43d6747f7ea2feced143437f27a6a3f6912a4d9dcef30fd9db9314"), looks := true }, kinds := [], alts := [], laidByText := true, laidKinds := [.data, .data, .data], laidTests := true, laidLooks := .later }
def IlShowsUptoCardSaid : Prop := Claim7.holds Tryz.pinned (.plain (OpenSpec.upto ilShowsSpec)) ilShowsUptoCard

/-- THE SECOND FORM's CARD OF 'touchstonelaw26.SpecNames'. -/
def specNamesUptoCard : Claim7 := { stood := { row := specNamesUptoRow, standIns := [], harness := (true, "47f48efdbd43d6747f7ea2feced143437f27a6a3f6912a4d9dcef30fd9db9314"), looks := true }, kinds := [], alts := [], laidByText := true, laidKinds := [.data, .pinned], laidTests := true, laidLooks := .later }
def SpecNamesUptoCardSaid : Prop := Claim7.holds Tryz.pinned (.plain (OpenSpec.upto specNamesSpec)) specNamesUptoCard
end Rows
end Go.Proofs.YtcdbpkfbnhjgdaaGreatDoor
