/-
  DERIVED. GIVEN WITH THE SEED: THE CARDS: each row of YtmeahkccilkofaaDoorRows.lean that lists a variable, with what it lists TIED to the program's text (the seventh form; the later family's looks); each row that meets fmt, with fmt's text TOLD by the authors' own Lean function (tested against real Go, not proved from fmt's source: count such statements apart). THE CARD IS WHAT COUNTS. Prove the row's statement (the work); the ties are given (YtmeahkccilkofaaDoorTie.lean); close each card by the builder's one call (the guide's Derived/Test/ToyasCard.lean, 'card_holds'). Laid BY PROGRAM, IN A SANDBOX (cutbox-door.mjs). By AI agents, Wed Nov 11 2026. No macro, syntax, notation, axiom, sorry.
-/
import Derived.Test.YtmeahkccilkofaaDoorRows
import GoSem.ClaimSeven
namespace Go.Proofs.YtmeahkccilkofaaDoor
namespace Rows

/-- THE TIED CARD OF 'touchstonelaw05.ExpandSplits'. -/
def expandSplitsCard : Claim7 := { stood := { row := expandSplitsRow, standIns := [], harness := (true, "e316c1652387de981bef8d470b1492806564d928888c9def669c653f97bda311"), looks := false }, kinds := [], alts := [], laidByText := true, laidKinds := [.data, .data, .data], laidTests := true, laidLooks := .later }
def ExpandSplitsCardSaid : Prop := Claim7.holds Tryd.pinned (.plain (OpenSpec.ofChange expandSplitsSpec)) expandSplitsCard

/-- THE TIED CARD OF 'touchstonelaw05.ExpandTexts'. -/
def expandTextsCard : Claim7 := { stood := { row := expandTextsRow, standIns := [], harness := (true, "e316c1652387de981bef8d470b1492806564d928888c9def669c653f97bda311"), looks := false }, kinds := [], alts := [], laidByText := true, laidKinds := [.data, .data, .data], laidTests := true, laidLooks := .later }
def ExpandTextsCardSaid : Prop := Claim7.holds Tryd.pinned (.plain (OpenSpec.ofChange expandTextsSpec)) expandTextsCard

/-- THE TIED CARD OF 'touchstonelaw06.PathPlaces'. -/
def pathPlacesCard : Claim7 := { stood := { row := pathPlacesRow, standIns := [], harness := (true, "e316c1652387de981bef8d470b1492806564d928888c9def669c653f97bda311"), looks := false }, kinds := [], alts := [], laidByText := true, laidKinds := [.data, .pinned], laidTests := true, laidLooks := .later }
def PathPlacesCardSaid : Prop := Claim7.holds Tryd.pinned (.plain (OpenSpec.ofChange pathPlacesSpec)) pathPlacesCard

/-- THE TIED CARD OF 'touchstonelaw06.PathOrder'. -/
def pathOrderCard : Claim7 := { stood := { row := pathOrderRow, standIns := [], harness := (true, "e316c1652387de981bef8d470b1492806564d928888c9def669c653f97bda311"), looks := false }, kinds := [], alts := [], laidByText := true, laidKinds := [.data, .pinned], laidTests := true, laidLooks := .later }
def PathOrderCardSaid : Prop := Claim7.holds Tryd.pinned (.plain (OpenSpec.ofChange pathOrderSpec)) pathOrderCard

/-- THE TIED CARD OF 'touchstonelaw06.PathCleans'. -/
def pathCleansCard : Claim7 := { stood := { row := pathCleansRow, standIns := [], harness := (true, "e316c1652387de981bef8d470b1492806564d928888c9def669c653f97bda311"), looks := false }, kinds := [], alts := [], laidByText := true, laidKinds := [.data, .pinned], laidTests := true, laidLooks := .later }
def PathCleansCardSaid : Prop := Claim7.holds Tryd.pinned (.plain (OpenSpec.ofChange pathCleansSpec)) pathCleansCard

/-- THE TIED CARD OF 'touchstonelaw09.WalkNames'. -/
def walkNamesCard : Claim7 := { stood := { row := walkNamesRow, standIns := [], harness := (true, "e316c1652387de981bef8d470b1492806564d928888c9def669c653f97bda311"), looks := false }, kinds := [], alts := [], laidByText := true, laidKinds := [.data, .pinned], laidTests := true, laidLooks := .later }
def WalkNamesCardSaid : Prop := Claim7.holds Tryd.pinned (.plain (OpenSpec.ofChange walkNamesSpec)) walkNamesCard

/-- THE TIED CARD OF 'touchstonelaw06.PathTexts'. -/
def pathTextsCard : Claim7 := { stood := { row := pathTextsRow, standIns := [], harness := (true, "e316c1652387de981bef8d470b1492806564d928888c9def669c653f97bda311"), looks := false }, kinds := [], alts := [], laidByText := true, laidKinds := [.data, .pinned], laidTests := true, laidLooks := .later }
def PathTextsCardSaid : Prop := Claim7.holds Tryd.pinned (.plain (OpenSpec.ofChange pathTextsSpec)) pathTextsCard

/-- THE TIED CARD OF 'touchstonelaw06.PathNames'. -/
def pathNamesCard : Claim7 := { stood := { row := pathNamesRow, standIns := [], harness := (true, "e316c1652387de981bef8d470b1492806564d928888c9def669c653f97bda311"), looks := false }, kinds := [], alts := [], laidByText := true, laidKinds := [.data, .pinned], laidTests := true, laidLooks := .later }
def PathNamesCardSaid : Prop := Claim7.holds Tryd.pinned (.plain (OpenSpec.ofChange pathNamesSpec)) pathNamesCard

/-- THE TIED CARD OF 'touchstonelaw09.WalkReal'. -/
def walkRealCard : Claim7 := { stood := { row := walkRealRow, standIns := [], harness := (true, "e316c1652387de981bef8d470b1492806564d928888c9def669c653f97bda311"), looks := false }, kinds := [], alts := [], laidByText := true, laidKinds := [.data, .pinned], laidTests := true, laidLooks := .later }
def WalkRealCardSaid : Prop := Claim7.holds Tryd.pinned (.plain (OpenSpec.ofChange walkRealSpec)) walkRealCard

/-- THE TIED CARD OF 'touchstonelaw05.ExpandKeeps'. -/
def expandKeepsCard : Claim7 := { stood := { row := expandKeepsRow, standIns := [], harness := (true, "e316c1652387de981bef8d470b1492806564d928888c9def669c653f97bda311"), looks := false }, kinds := [], alts := [], laidByText := true, laidKinds := [.data, .data, .data], laidTests := true, laidLooks := .later }
def ExpandKeepsCardSaid : Prop := Claim7.holds Tryd.pinned (.plain (OpenSpec.ofChange expandKeepsSpec)) expandKeepsCard

/-- THE SECOND FORM's CARD OF 'touchstonelaw05.ExpandSplits'. -/
def expandSplitsUptoCard : Claim7 := { stood := { row := expandSplitsUptoRow, standIns := [], harness := (true, "e316c1652387de981bef8d470b1492806564d928888c9def669c653f97bda311"), looks := false }, kinds := [], alts := [], laidByText := true, laidKinds := [.data, .data, .data], laidTests := true, laidLooks := .later }
def ExpandSplitsUptoCardSaid : Prop := Claim7.holds Tryd.pinned (.plain (OpenSpec.upto expandSplitsSpec)) expandSplitsUptoCard

/-- THE SECOND FORM's CARD OF 'touchstonelaw05.ExpandTexts'. -/
def expandTextsUptoCard : Claim7 := { stood := { row := expandTextsUptoRow, standIns := [], harness := (true, "e316c1652387de981bef8d470b1492806564d928888c9def669c653f97bda311"), looks := false }, kinds := [], alts := [], laidByText := true, laidKinds := [.data, .data, .data], laidTests := true, laidLooks := .later }
def ExpandTextsUptoCardSaid : Prop := Claim7.holds Tryd.pinned (.plain (OpenSpec.upto expandTextsSpec)) expandTextsUptoCard

/-- THE SECOND FORM's CARD OF 'touchstonelaw06.PathPlaces'. -/
def pathPlacesUptoCard : Claim7 := { stood := { row := pathPlacesUptoRow, standIns := [], harness := (true, "e316c1652387de981bef8d470b1492806564d928888c9def669c653f97bda311"), looks := false }, kinds := [], alts := [], laidByText := true, laidKinds := [.data, .pinned], laidTests := true, laidLooks := .later }
def PathPlacesUptoCardSaid : Prop := Claim7.holds Tryd.pinned (.plain (OpenSpec.upto pathPlacesSpec)) pathPlacesUptoCard

/-- THE SECOND FORM's CARD OF 'touchstonelaw06.PathOrder'. -/
def pathOrderUptoCard : Claim7 := { stood := { row := pathOrderUptoRow, standIns := [], harness := (true, "e316c1652387de981bef8d470b1492806564d928888c9def669c653f97bda311"), looks := false }, kinds := [], alts := [], laidByText := true, laidKinds := [.data, .pinned], laidTests := true, laidLooks := .later }
def PathOrderUptoCardSaid : Prop := Claim7.holds Tryd.pinned (.plain (OpenSpec.upto pathOrderSpec)) pathOrderUptoCard

/-- THE SECOND FORM's CARD OF 'touchstonelaw06.PathCleans'. -/
def pathCleansUptoCard : Claim7 := { stood := { row := pathCleansUptoRow, standIns := [], harness := (true, "e316c1652387de981bef8d470b1492806564d928888c9def669c653f97bda311"), looks := false }, kinds := [], alts := [], laidByText := true, laidKinds := [.data, .pinned], laidTests := true, laidLooks := .later }
def PathCleansUptoCardSaid : Prop := Claim7.holds Tryd.pinned (.plain (OpenSpec.upto pathCleansSpec)) pathCleansUptoCard

/-- THE SECOND FORM's CARD OF 'touchstonelaw09.WalkNames'. -/
def walkNamesUptoCard : Claim7 := { stood := { row := walkNamesUptoRow, standIns := [], harness := (true, "e316c1652387de981bef8d470b1492806564d928888c9def669c653f97bda311"), looks := false }, kinds := [], alts := [], laidByText := true, laidKinds := [.data, .pinned], laidTests := true, laidLooks := .later }
def WalkNamesUptoCardSaid : Prop := Claim7.holds Tryd.pinned (.plain (OpenSpec.upto walkNamesSpec)) walkNamesUptoCard

/-- THE SECOND FORM's CARD OF 'touchstonelaw06.PathTexts'. -/
def pathTextsUptoCard : Claim7 := { stood := { row := pathTextsUptoRow, standIns := [], harness := (true, "e316c1652387de981bef8d470b1492806564d928888c9def669c653f97bda311"), looks := false }, kinds := [], alts := [], laidByText := true, laidKinds := [.data, .pinned], laidTests := true, laidLooks := .later }
def PathTextsUptoCardSaid : Prop := Claim7.holds Tryd.pinned (.plain (OpenSpec.upto pathTextsSpec)) pathTextsUptoCard

/-- THE SECOND FORM's CARD OF 'touchstonelaw06.PathNames'. -/
def pathNamesUptoCard : Claim7 := { stood := { row := pathNamesUptoRow, standIns := [], harness := (true, "e316c1652387de981bef8d470b1492806564d928888c9def669c653f97bda311"), looks := false }, kinds := [], alts := [], laidByText := true, laidKinds := [.data, .pinned], laidTests := true, laidLooks := .later }
def PathNamesUptoCardSaid : Prop := Claim7.holds Tryd.pinned (.plain (OpenSpec.upto pathNamesSpec)) pathNamesUptoCard

/-- THE SECOND FORM's CARD OF 'touchstonelaw09.WalkReal'. -/
def walkRealUptoCard : Claim7 := { stood := { row := walkRealUptoRow, standIns := [], harness := (true, "e316c1652387de981bef8d470b1492806564d928888c9def669c653f97bda311"), looks := false }, kinds := [], alts := [], laidByText := true, laidKinds := [.data, .pinned], laidTests := true, laidLooks := .later }
def WalkRealUptoCardSaid : Prop := Claim7.holds Tryd.pinned (.plain (OpenSpec.upto walkRealSpec)) walkRealUptoCard

/-- THE SECOND FORM's CARD OF 'touchstonelaw05.ExpandKeeps'. -/
def expandKeepsUptoCard : Claim7 := { stood := { row := expandKeepsUptoRow, standIns := [], harness := (true, "e316c1652387de981bef8d470b1492806564d928888c9def669c653f97bda311"), looks := false }, kinds := [], alts := [], laidByText := true, laidKinds := [.data, .data, .data], laidTests := true, laidLooks := .later }
def ExpandKeepsUptoCardSaid : Prop := Claim7.holds Tryd.pinned (.plain (OpenSpec.upto expandKeepsSpec)) expandKeepsUptoCard
end Rows
end Go.Proofs.YtmeahkccilkofaaDoor
