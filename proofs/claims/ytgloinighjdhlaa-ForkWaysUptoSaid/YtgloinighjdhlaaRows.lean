/-
  NARROWER THAN 'FOR EVERY INPUT', by the rows' own cells (each row's printed sentence says how): MatchHolds: loops · MatchWhole: loops.
  DERIVED. THE GIVEN ROWS OF THIS SEAT. 4 by the template 'for every input the law returns true; each argument reads behind the call as it read before'; 0 by the template 'total and deterministic' (their statements: YtgloinighjdhlaaTotals.lean).
  GIVEN WITH THE SEED: the statements are not yours to turn. If you find one false, say at which input.
  Laid BY PROGRAM, IN A SANDBOX (cutbox-rows.mjs): the forced cells as the released guide's own fill.sh prints them over the translation a1a401e9b594e0e4… (all of the seat's roots in one cut). By AI agents, Wed Nov 11 2026. No macro, syntax, notation, axiom, sorry.
-/
import Derived.Test.YtgloinighjdhlaaChecked
import GoSem.Claim
import GoSem.ClaimJoined
import GoSem.ClaimMapViews
import Derived.JoinedTies
import Derived.KernelRfl
namespace Go.Proofs.Ytgloinighjdhlaa
/- THE CELL 'sum', in the pinned program and in every row, IS THE sha256 OF THE DUMP (.gsa) THAT YtgloinighjdhlaaProg.lean LOADS. Nothing in Lean hashes anything: it is a label: what it is worth is what the hold of that sum in a sandbox is worth. -/
noncomputable def Try.pinned : Pinned := { name := "ytgloinighjdhlaa", sum := "a1a401e9b594e0e46ccff3c312d74e40f1b900b18febb6bf0e24dfc49be6ea29", checked := Try.checked }
namespace Rows
def none {H : Type} : Left H := { results := [], args := [] }

/-- 'touchstonelaw24.ForkWays': WHATEVER THE INPUT: true; the input reads as it did. -/
def forkWaysSpec : ChangeSpec := { name := "forkWays", fn := fun _ => fun
  | [d1, d2, d3, d4] => { results := [.lit (.bool true)], args := [d1, d2, d3, d4] }
  | _ => none }
def forkWaysRow : OpenClaim := { program := "ytgloinighjdhlaa", sum := "a1a401e9b594e0e46ccff3c312d74e40f1b900b18febb6bf0e24dfc49be6ea29", func := "touchstone/touchstonelaw24.ForkWays", spec := "forkWays", inPlace := ["internal/bytealg.IndexByteString", "internal/bytealg.IndexString"], unfollowed := true, recurses := true, named := ["internal/bytealg.MaxLen"], apart := false }
def ForkWaysSaid : Prop := forkWaysRow.holds Try.pinned (OpenSpec.ofChange forkWaysSpec)

/-- ITS FALSE NEIGHBOUR: 'it returns false'. Refute it at one input. -/
def forkWaysWrong : ChangeSpec := { name := "forkWays", fn := fun _ => fun
  | [d1, d2, d3, d4] => { results := [.lit (.bool false)], args := [d1, d2, d3, d4] }
  | _ => none }
def ForkWaysWrongFalsely : Prop := forkWaysRow.holds Try.pinned (OpenSpec.ofChange forkWaysWrong)

/-- 'touchstonelaw24.ForkFollows': WHATEVER THE INPUT: true; the input reads as it did. -/
def forkFollowsSpec : ChangeSpec := { name := "forkFollows", fn := fun _ => fun
  | [d1, d2, d3, d4] => { results := [.lit (.bool true)], args := [d1, d2, d3, d4] }
  | _ => none }
def forkFollowsRow : OpenClaim := { program := "ytgloinighjdhlaa", sum := "a1a401e9b594e0e46ccff3c312d74e40f1b900b18febb6bf0e24dfc49be6ea29", func := "touchstone/touchstonelaw24.ForkFollows", spec := "forkFollows", inPlace := ["internal/bytealg.IndexByteString", "internal/bytealg.IndexString"], unfollowed := true, recurses := true, named := ["internal/bytealg.MaxLen"], apart := false }
def ForkFollowsSaid : Prop := forkFollowsRow.holds Try.pinned (OpenSpec.ofChange forkFollowsSpec)

/-- ITS FALSE NEIGHBOUR: 'it returns false'. Refute it at one input. -/
def forkFollowsWrong : ChangeSpec := { name := "forkFollows", fn := fun _ => fun
  | [d1, d2, d3, d4] => { results := [.lit (.bool false)], args := [d1, d2, d3, d4] }
  | _ => none }
def ForkFollowsWrongFalsely : Prop := forkFollowsRow.holds Try.pinned (OpenSpec.ofChange forkFollowsWrong)

/-- 'touchstonelaw21.MatchHolds': WHATEVER THE INPUT: true; the input reads as it did. -/
def matchHoldsSpec : ChangeSpec := { name := "matchHolds", fn := fun _ => fun
  | [d1, d2, d3] => { results := [.lit (.bool true)], args := [d1, d2, d3] }
  | _ => none }
def matchHoldsRow : OpenClaim := { program := "ytgloinighjdhlaa", sum := "a1a401e9b594e0e46ccff3c312d74e40f1b900b18febb6bf0e24dfc49be6ea29", func := "touchstone/touchstonelaw21.MatchHolds", spec := "matchHolds", inPlace := ["internal/bytealg.IndexByteString", "internal/bytealg.IndexString"], unfollowed := true, recurses := true, named := ["internal/bytealg.MaxLen"], loops := true, apart := false }
def MatchHoldsSaid : Prop := matchHoldsRow.holds Try.pinned (OpenSpec.ofChange matchHoldsSpec)

/-- ITS FALSE NEIGHBOUR: 'it returns false'. Refute it at one input. -/
def matchHoldsWrong : ChangeSpec := { name := "matchHolds", fn := fun _ => fun
  | [d1, d2, d3] => { results := [.lit (.bool false)], args := [d1, d2, d3] }
  | _ => none }
def MatchHoldsWrongFalsely : Prop := matchHoldsRow.holds Try.pinned (OpenSpec.ofChange matchHoldsWrong)

/-- 'touchstonelaw21.MatchWhole': WHATEVER THE INPUT: true; the input reads as it did. -/
def matchWholeSpec : ChangeSpec := { name := "matchWhole", fn := fun _ => fun
  | [d1, d2, d3, d4] => { results := [.lit (.bool true)], args := [d1, d2, d3, d4] }
  | _ => none }
def matchWholeRow : OpenClaim := { program := "ytgloinighjdhlaa", sum := "a1a401e9b594e0e46ccff3c312d74e40f1b900b18febb6bf0e24dfc49be6ea29", func := "touchstone/touchstonelaw21.MatchWhole", spec := "matchWhole", inPlace := ["internal/bytealg.IndexByteString", "internal/bytealg.IndexString"], unfollowed := true, recurses := true, named := ["internal/bytealg.MaxLen"], loops := true, apart := false }
def MatchWholeSaid : Prop := matchWholeRow.holds Try.pinned (OpenSpec.ofChange matchWholeSpec)

/-- ITS FALSE NEIGHBOUR: 'it returns false'. Refute it at one input. -/
def matchWholeWrong : ChangeSpec := { name := "matchWhole", fn := fun _ => fun
  | [d1, d2, d3, d4] => { results := [.lit (.bool false)], args := [d1, d2, d3, d4] }
  | _ => none }
def MatchWholeWrongFalsely : Prop := matchWholeRow.holds Try.pinned (OpenSpec.ofChange matchWholeWrong)

/- THE SECOND FORM. 'bulk': how many values and letters a reading holds, each counted each time it is reached (what is shared counts as often as it is met; a slice's spare places count too). A statement '..UptoSaid' is the law's where the arguments, and the package variables that the reading takes, are together of bulk at most 1048576: NARROWER than '..Said'. Prove '..Said' where nothing that the law and all that it calls make is longer than what came in: it says more and counts as full. Else prove '..UptoSaid'. A law counts once. -/
mutual
def uptoBulk {H : Type} : DataW H → Nat
  | .lit (.string bytes) => bytes.length + 1
  | .lit _ => 1
  | .nil => 1
  | .ptr d => uptoBulk d + 1
  | .slice elems spare => uptoBulkAll elems + uptoBulkAll spare + 1
  | .agg parts => uptoBulkAll parts + 1
  | .iface _ d => uptoBulk d + 1
  | .map entries => uptoBulkEntries entries + 1
  | .held _ => 1
def uptoBulkAll {H : Type} : List (DataW H) → Nat
  | [] => 0
  | d :: r => uptoBulk d + uptoBulkAll r
def uptoBulkEntries {H : Type} : List (Lit × DataW H) → Nat
  | [] => 0
  | x :: r => uptoBulkEntry x + uptoBulkEntries r
def uptoBulkEntry {H : Type} : Lit × DataW H → Nat
  | (.string bytes, d) => bytes.length + uptoBulk d + 1
  | (_, d) => uptoBulk d + 1
 end
def uptoSmall : (H : Type) → List (DataW H) → Bool := fun _ ds => decide (uptoBulkAll ds ≤ 1048576)
def OpenSpec.upto (s : _root_.Go.ChangeSpec) : _root_.Go.OpenSpec := { _root_.Go.OpenSpec.ofChange s with cond := some uptoSmall }

/-- 'touchstonelaw24.ForkWays', WHERE WHAT IT READS IS OF BULK AT MOST 1048576: true; the input reads as it did. -/
def forkWaysUptoRow : OpenClaim := { program := "ytgloinighjdhlaa", sum := "a1a401e9b594e0e46ccff3c312d74e40f1b900b18febb6bf0e24dfc49be6ea29", func := "touchstone/touchstonelaw24.ForkWays", spec := "forkWays", inPlace := ["internal/bytealg.IndexByteString", "internal/bytealg.IndexString"], unfollowed := true, recurses := true, named := ["internal/bytealg.MaxLen"], apart := false, narrowed := true }
def ForkWaysUptoSaid : Prop := forkWaysUptoRow.holds Try.pinned (OpenSpec.upto forkWaysSpec)

/-- 'touchstonelaw24.ForkFollows', WHERE WHAT IT READS IS OF BULK AT MOST 1048576: true; the input reads as it did. -/
def forkFollowsUptoRow : OpenClaim := { program := "ytgloinighjdhlaa", sum := "a1a401e9b594e0e46ccff3c312d74e40f1b900b18febb6bf0e24dfc49be6ea29", func := "touchstone/touchstonelaw24.ForkFollows", spec := "forkFollows", inPlace := ["internal/bytealg.IndexByteString", "internal/bytealg.IndexString"], unfollowed := true, recurses := true, named := ["internal/bytealg.MaxLen"], apart := false, narrowed := true }
def ForkFollowsUptoSaid : Prop := forkFollowsUptoRow.holds Try.pinned (OpenSpec.upto forkFollowsSpec)

/-- 'touchstonelaw21.MatchHolds', WHERE WHAT IT READS IS OF BULK AT MOST 1048576: true; the input reads as it did. -/
def matchHoldsUptoRow : OpenClaim := { program := "ytgloinighjdhlaa", sum := "a1a401e9b594e0e46ccff3c312d74e40f1b900b18febb6bf0e24dfc49be6ea29", func := "touchstone/touchstonelaw21.MatchHolds", spec := "matchHolds", inPlace := ["internal/bytealg.IndexByteString", "internal/bytealg.IndexString"], unfollowed := true, recurses := true, named := ["internal/bytealg.MaxLen"], loops := true, apart := false, narrowed := true }
def MatchHoldsUptoSaid : Prop := matchHoldsUptoRow.holds Try.pinned (OpenSpec.upto matchHoldsSpec)

/-- 'touchstonelaw21.MatchWhole', WHERE WHAT IT READS IS OF BULK AT MOST 1048576: true; the input reads as it did. -/
def matchWholeUptoRow : OpenClaim := { program := "ytgloinighjdhlaa", sum := "a1a401e9b594e0e46ccff3c312d74e40f1b900b18febb6bf0e24dfc49be6ea29", func := "touchstone/touchstonelaw21.MatchWhole", spec := "matchWhole", inPlace := ["internal/bytealg.IndexByteString", "internal/bytealg.IndexString"], unfollowed := true, recurses := true, named := ["internal/bytealg.MaxLen"], loops := true, apart := false, narrowed := true }
def MatchWholeUptoSaid : Prop := matchWholeUptoRow.holds Try.pinned (OpenSpec.upto matchWholeSpec)

end Rows
end Go.Proofs.Ytgloinighjdhlaa
