/-
  NARROWER THAN 'FOR EVERY INPUT', by the rows' own cells (each row's printed sentence says how): GroundMade: loops · GroundFirst: loops.
  DERIVED. THE GIVEN ROWS OF THIS SEAT. 3 by the template 'for every input the law returns true; each argument reads behind the call as it read before'; 0 by the template 'total and deterministic' (their statements: YtbfgoopcnkeblaaGreatTotals.lean).
  GIVEN WITH THE SEED: the statements are not yours to turn. If you find one false, say at which input.
  Laid BY PROGRAM, IN A SANDBOX (cutbox-rows.mjs): the forced cells as the released guide's own fill.sh prints them over the translation 547715e57a9c0e62… (all of the seat's roots in one cut). By AI agents, Wed Nov 11 2026. No macro, syntax, notation, axiom, sorry.
-/
import Derived.Test.YtbfgoopcnkeblaaGreatChecked
import GoSem.Claim
import GoSem.ClaimJoined
import GoSem.ClaimMapViews
import Derived.JoinedTies
import Derived.KernelRfl
namespace Go.Proofs.YtbfgoopcnkeblaaGreat
/- THE CELL 'sum', in the pinned program and in every row, IS THE sha256 OF THE DUMP (.gsa) THAT YtbfgoopcnkeblaaGreatProg.lean LOADS. Nothing in Lean hashes anything: it is a label: what it is worth is what the hold of that sum in a sandbox is worth. -/
noncomputable def Tryz.pinned : Pinned := { name := "ytbfgoopcnkeblaagreat", sum := "547715e57a9c0e62b887ca5aafe0574d21d6394146d6c93c562a4584d3c52f93", checked := Tryz.checked }
namespace Rows
def none {H : Type} : Left H := { results := [], args := [] }

/-- 'touchstonelaw25.GroundNames': WHATEVER THE INPUT: true; the input reads as it did. -/
def groundNamesSpec : ChangeSpec := { name := "groundNames", fn := fun _ => fun
  | [] => { results := [.lit (.bool true)], args := [] }
  | _ => none }
def groundNamesRow : OpenClaim := { program := "ytbfgoopcnkeblaagreat", sum := "547715e57a9c0e62b887ca5aafe0574d21d6394146d6c93c562a4584d3c52f93", func := "touchstone/touchstonelaw25.GroundNames", spec := "groundNames", inPlace := ["internal/bytealg.IndexByteString", "internal/bytealg.IndexString"], unfollowed := true, recurses := true, named := ["internal/bytealg.MaxLen"], apart := false }
def GroundNamesSaid : Prop := groundNamesRow.holds Tryz.pinned (OpenSpec.ofChange groundNamesSpec)

/-- ITS FALSE NEIGHBOUR: 'it returns false'. Refute it at one input. -/
def groundNamesWrong : ChangeSpec := { name := "groundNames", fn := fun _ => fun
  | [] => { results := [.lit (.bool false)], args := [] }
  | _ => none }
def GroundNamesWrongFalsely : Prop := groundNamesRow.holds Tryz.pinned (OpenSpec.ofChange groundNamesWrong)

/-- 'touchstonelaw25.GroundMade': WHATEVER THE INPUT: true; the input reads as it did. -/
def groundMadeSpec : ChangeSpec := { name := "groundMade", fn := fun _ => fun
  | [d1, d2] => { results := [.lit (.bool true)], args := [d1, d2] }
  | _ => none }
def groundMadeRow : OpenClaim := { program := "ytbfgoopcnkeblaagreat", sum := "547715e57a9c0e62b887ca5aafe0574d21d6394146d6c93c562a4584d3c52f93", func := "touchstone/touchstonelaw25.GroundMade", spec := "groundMade", inPlace := ["internal/bytealg.IndexByteString", "internal/bytealg.IndexString"], unfollowed := true, recurses := true, named := ["internal/bytealg.MaxLen"], loops := true, apart := false }
def GroundMadeSaid : Prop := groundMadeRow.holds Tryz.pinned (OpenSpec.ofChange groundMadeSpec)

/-- ITS FALSE NEIGHBOUR: 'it returns false'. Refute it at one input. -/
def groundMadeWrong : ChangeSpec := { name := "groundMade", fn := fun _ => fun
  | [d1, d2] => { results := [.lit (.bool false)], args := [d1, d2] }
  | _ => none }
def GroundMadeWrongFalsely : Prop := groundMadeRow.holds Tryz.pinned (OpenSpec.ofChange groundMadeWrong)

/-- 'touchstonelaw25.GroundFirst': WHATEVER THE INPUT: true; the input reads as it did. -/
def groundFirstSpec : ChangeSpec := { name := "groundFirst", fn := fun _ => fun
  | [d1, d2, d3] => { results := [.lit (.bool true)], args := [d1, d2, d3] }
  | _ => none }
def groundFirstRow : OpenClaim := { program := "ytbfgoopcnkeblaagreat", sum := "547715e57a9c0e62b887ca5aafe0574d21d6394146d6c93c562a4584d3c52f93", func := "touchstone/touchstonelaw25.GroundFirst", spec := "groundFirst", inPlace := ["internal/bytealg.IndexByteString", "internal/bytealg.IndexString"], unfollowed := true, recurses := true, named := ["internal/bytealg.MaxLen"], loops := true, apart := false }
def GroundFirstSaid : Prop := groundFirstRow.holds Tryz.pinned (OpenSpec.ofChange groundFirstSpec)

/-- ITS FALSE NEIGHBOUR: 'it returns false'. Refute it at one input. -/
def groundFirstWrong : ChangeSpec := { name := "groundFirst", fn := fun _ => fun
  | [d1, d2, d3] => { results := [.lit (.bool false)], args := [d1, d2, d3] }
  | _ => none }
def GroundFirstWrongFalsely : Prop := groundFirstRow.holds Tryz.pinned (OpenSpec.ofChange groundFirstWrong)

/- THE SECOND FORM. 'bulk': how many values and letters a reading holds, each counted each time it is reached (what is shared counts as often as it is met; a slice's spare places count too). A statement '..UptoSaid' is the law's where the arguments, and the package variables that the reading takes, are together of bulk at most 1048576: NARROWER than '..Said'. Prove '..Said' where nothing that the law and all that it calls make is longer than what came in: it says more and counts as full. Else prove '..UptoSaid'. A law counts once. -/
mutual
def uptoBulk {H : Type} : DataW H → Nat
  | .lit (.string bytes) => bytes.length + 1
  | .lit _ => 1
  | .nil => 1
  | .ptr d => uptoBulk d + 1
  | .slice elems spare => uptoBulkAll elems + uptoBulkAll spare + 1
  | .agg parts => uptoBulkAll parts + 1
  | .iface _ d => uptoBulk d + 1
  | .map entries => uptoBulkEntries entries + 1
  | .held _ => 1
def uptoBulkAll {H : Type} : List (DataW H) → Nat
  | [] => 0
  | d :: r => uptoBulk d + uptoBulkAll r
def uptoBulkEntries {H : Type} : List (Lit × DataW H) → Nat
  | [] => 0
  | x :: r => uptoBulkEntry x + uptoBulkEntries r
def uptoBulkEntry {H : Type} : Lit × DataW H → Nat
  | (.string bytes, d) => bytes.length + uptoBulk d + 1
  | (_, d) => uptoBulk d + 1
 end
def uptoSmall : (H : Type) → List (DataW H) → Bool := fun _ ds => decide (uptoBulkAll ds ≤ 1048576)
def OpenSpec.upto (s : _root_.Go.ChangeSpec) : _root_.Go.OpenSpec := { _root_.Go.OpenSpec.ofChange s with cond := some uptoSmall }

/-- 'touchstonelaw25.GroundNames', WHERE WHAT IT READS IS OF BULK AT MOST 1048576: true; the input reads as it did. -/
def groundNamesUptoRow : OpenClaim := { program := "ytbfgoopcnkeblaagreat", sum := "547715e57a9c0e62b887ca5aafe0574d21d6394146d6c93c562a4584d3c52f93", func := "touchstone/touchstonelaw25.GroundNames", spec := "groundNames", inPlace := ["internal/bytealg.IndexByteString", "internal/bytealg.IndexString"], unfollowed := true, recurses := true, named := ["internal/bytealg.MaxLen"], apart := false, narrowed := true }
def GroundNamesUptoSaid : Prop := groundNamesUptoRow.holds Tryz.pinned (OpenSpec.upto groundNamesSpec)

/-- 'touchstonelaw25.GroundMade', WHERE WHAT IT READS IS OF BULK AT MOST 1048576: true; the input reads as it did. -/
def groundMadeUptoRow : OpenClaim := { program := "ytbfgoopcnkeblaagreat", sum := "547715e57a9c0e62b887ca5aafe0574d21d6394146d6c93c562a4584d3c52f93", func := "touchstone/touchstonelaw25.GroundMade", spec := "groundMade", inPlace := ["internal/bytealg.IndexByteString", "internal/bytealg.IndexString"], unfollowed := true, recurses := true, named := ["internal/bytealg.MaxLen"], loops := true, apart := false, narrowed := true }
def GroundMadeUptoSaid : Prop := groundMadeUptoRow.holds Tryz.pinned (OpenSpec.upto groundMadeSpec)

/-- 'touchstonelaw25.GroundFirst', WHERE WHAT IT READS IS OF BULK AT MOST 1048576: true; the input reads as it did. -/
def groundFirstUptoRow : OpenClaim := { program := "ytbfgoopcnkeblaagreat", sum := "547715e57a9c0e62b887ca5aafe0574d21d6394146d6c93c562a4584d3c52f93", func := "touchstone/touchstonelaw25.GroundFirst", spec := "groundFirst", inPlace := ["internal/bytealg.IndexByteString", "internal/bytealg.IndexString"], unfollowed := true, recurses := true, named := ["internal/bytealg.MaxLen"], loops := true, apart := false, narrowed := true }
def GroundFirstUptoSaid : Prop := groundFirstUptoRow.holds Tryz.pinned (OpenSpec.upto groundFirstSpec)

end Rows
end Go.Proofs.YtbfgoopcnkeblaaGreat
