/-
  DERIVED. GIVEN WITH THE SEED: THE CARDS: each row of YtkkfjoiffcmpeaaDoorRows.lean that lists a variable, with what it lists TIED to the program's text (the seventh form; the later family's looks); each row that meets fmt, with fmt's text TOLD by the authors' own Lean function (tested against real Go, not proved from fmt's source: count such statements apart). THE CARD IS WHAT COUNTS. Prove the row's statement (the work); the ties are given (YtkkfjoiffcmpeaaDoorTie.lean); close each card by the builder's one call (the guide's Derived/Test/ToyasCard.lean, 'card_holds'). Laid BY PROGRAM, IN A SANDBOX (cutbox-door.mjs). By AI agents, Wed Nov 11 2026. No macro, syntax, notation, axiom, sorry.
-/
import Derived.Test.YtkkfjoiffcmpeaaDoorRows
import GoSem.ClaimSeven
namespace Go.Proofs.YtkkfjoiffcmpeaaDoor
namespace Rows

/-- THE TIED CARD OF 'touchstonelaw09.WalkReal'. -/
def walkRealCard : Claim7 := { stood := { row := walkRealRow, standIns := [], harness := (true, "111ba91d3b733ee005f8f4c0b80d1fb86a20373066c03c9d09e452b8b32247de"), looks := false }, kinds := [], alts := [], laidByText := true, laidKinds := [.data, .pinned], laidTests := true, laidLooks := .later }
def WalkRealCardSaid : Prop := Claim7.holds Tryd.pinned (.plain (OpenSpec.ofChange walkRealSpec)) walkRealCard

/-- THE TIED CARD OF 'touchstonelaw14.ProbeNot'. -/
def probeNotCard : Claim7 := { stood := { row := probeNotRow, standIns := [], harness := (true, "111ba91d3b733ee005f8f4c0b80d1fb86a20373066c03c9d09e452b8b32247de"), looks := false }, kinds := [], alts := [], laidByText := true, laidKinds := [.data, .pinned], laidTests := true, laidLooks := .later }
def ProbeNotCardSaid : Prop := Claim7.holds Tryd.pinned (.plain (OpenSpec.ofChange probeNotSpec)) probeNotCard

/-- THE TIED CARD OF 'touchstonelaw14.ProbeLooks'. -/
def probeLooksCard : Claim7 := { stood := { row := probeLooksRow, standIns := [], harness := (true, "111ba91d3b733ee005f8f4c0b80d1fb86a20373066c03c9d09e452b8b32247de"), looks := false }, kinds := [], alts := [], laidByText := true, laidKinds := [.data, .pinned], laidTests := true, laidLooks := .later }
def ProbeLooksCardSaid : Prop := Claim7.holds Tryd.pinned (.plain (OpenSpec.ofChange probeLooksSpec)) probeLooksCard

/-- THE SECOND FORM's CARD OF 'touchstonelaw09.WalkReal'. -/
def walkRealUptoCard : Claim7 := { stood := { row := walkRealUptoRow, standIns := [], harness := (true, "111ba91d3b733ee005f8f4c0b80d1fb86a20373066c03c9d09e452b8b32247de"), looks := false }, kinds := [], alts := [], laidByText := true, laidKinds := [.data, .pinned], laidTests := true, laidLooks := .later }
def WalkRealUptoCardSaid : Prop := Claim7.holds Tryd.pinned (.plain (OpenSpec.upto walkRealSpec)) walkRealUptoCard

/-- THE SECOND FORM's CARD OF 'touchstonelaw14.ProbeNot'. -/
def probeNotUptoCard : Claim7 := { stood := { row := probeNotUptoRow, standIns := [], harness := (true, "111ba91d3b733ee005f8f4c0b80d1fb86a20373066c03c9d09e452b8b32247de"), looks := false }, kinds := [], alts := [], laidByText := true, laidKinds := [.data, .pinned], laidTests := true, laidLooks := .later }
def ProbeNotUptoCardSaid : Prop := Claim7.holds Tryd.pinned (.plain (OpenSpec.upto probeNotSpec)) probeNotUptoCard

/-- THE SECOND FORM's CARD OF 'touchstonelaw14.ProbeLooks'. -/
def probeLooksUptoCard : Claim7 := { stood := { row := probeLooksUptoRow, standIns := [], harness := (true, "111ba91d3b733ee005f8f4c0b80d1fb86a20373066c03c9d09e452b8b32247de"), looks := false }, kinds := [], alts := [], laidByText := true, laidKinds := [.data, .pinned], laidTests := true, laidLooks := .later }
def ProbeLooksUptoCardSaid : Prop := Claim7.holds Tryd.pinned (.plain (OpenSpec.upto probeLooksSpec)) probeLooksUptoCard
end Rows
end Go.Proofs.YtkkfjoiffcmpeaaDoor
