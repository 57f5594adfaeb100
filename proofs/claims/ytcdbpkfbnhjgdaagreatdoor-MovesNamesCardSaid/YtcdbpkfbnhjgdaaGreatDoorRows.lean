/-
  NARROWER THAN 'FOR EVERY INPUT', by the rows' own cells (each row's printed sentence says how): DirsKeeps: loops, laid · DirsNames: laid · DirsThere: loops, laid · MovesMany: loops, laid · MovesNames: laid · MovesOne: loops, laid · IlLines: loops, laid · IlNames: laid · IlParts: loops, laid · IlShows: loops, laid · SpecNames: laid.
  DERIVED. THE GIVEN ROWS OF THIS SEAT. 11 by the template 'for every input the law returns true; each argument reads behind the call as it read before'; 0 by the template 'total and deterministic' (their statements: YtcdbpkfbnhjgdaaGreatDoorTotals.lean).
  GIVEN WITH THE SEED: the statements are not yours to turn. If you find one false, say at which input.
  Laid BY PROGRAM, IN A SANDBOX (cutbox-rows.mjs): the forced cells as the released guide's own fill.sh prints them over the translation 91d49df0d2cf58ce… (all of the seat's roots in one cut). By AI agents, Wed Nov 11 2026. No macro, syntax, notation, axiom, sorry.
-/
import Derived.Test.YtcdbpkfbnhjgdaaGreatDoorChecked
import GoSem.PinnedTables
import GoSem.Claim
import GoSem.ClaimJoined
import GoSem.ClaimMapViews
import Derived.JoinedTies
import Derived.KernelRfl
namespace Go.Proofs.YtcdbpkfbnhjgdaaGreatDoor
/- THE CELL 'sum', in the pinned program and in every row, IS THE sha256 OF THE DUMP (.gsa) THAT YtcdbpkfbnhjgdaaGreatDoorProg.lean LOADS. Nothing in Lean hashes anything: it is a label: what it is worth is what the hold of that sum in a sandbox is worth. -/
noncomputable def Tryz.pinned : Pinned := { name := "ytcdbpkfbnhjgdaagreatdoor", sum := "91d49df0d2cf58ce4f9ad487f1c283b621fbfe4d1b915547c10c07234b54ebfe", checked := Tryz.checked }
namespace Rows
def none {H : Type} : Left H := { results := [], args := [] }

/- WHAT THE LISTED PACKAGE-LEVEL VARIABLES READ AS WHEN THE CALL BEGINS. Each datum BY PROGRAM (the guide's laid-datum.mjs) off the statement by which the dump's own 'gosem.cut.vars' lays the variable. In a bare row this is a premise. The card (YtcdbpkfbnhjgdaaGreatDoorCards.lean) ties it to the program's text. -/
def laid_unicode_utf8_acceptRanges {H : Type} : DataW H := .agg [.agg [.lit (.int .u8 128), .lit (.int .u8 191)], .agg [.lit (.int .u8 160), .lit (.int .u8 191)], .agg [.lit (.int .u8 128), .lit (.int .u8 159)], .agg [.lit (.int .u8 144), .lit (.int .u8 191)], .agg [.lit (.int .u8 128), .lit (.int .u8 143)], .agg [.lit (.int .u8 0), .lit (.int .u8 0)], .agg [.lit (.int .u8 0), .lit (.int .u8 0)], .agg [.lit (.int .u8 0), .lit (.int .u8 0)], .agg [.lit (.int .u8 0), .lit (.int .u8 0)], .agg [.lit (.int .u8 0), .lit (.int .u8 0)], .agg [.lit (.int .u8 0), .lit (.int .u8 0)], .agg [.lit (.int .u8 0), .lit (.int .u8 0)], .agg [.lit (.int .u8 0), .lit (.int .u8 0)], .agg [.lit (.int .u8 0), .lit (.int .u8 0)], .agg [.lit (.int .u8 0), .lit (.int .u8 0)], .agg [.lit (.int .u8 0), .lit (.int .u8 0)]]
/-- One of Go's own tables, pinned by name: the form's constant. -/
def laid_unicode_utf8_first : DataW Unit := Go.Pinned.utf8First
def laid_math_bits_deBruijn32tab {H : Type} : DataW H := .agg [.lit (.int .u8 0), .lit (.int .u8 1), .lit (.int .u8 28), .lit (.int .u8 2), .lit (.int .u8 29), .lit (.int .u8 14), .lit (.int .u8 24), .lit (.int .u8 3), .lit (.int .u8 30), .lit (.int .u8 22), .lit (.int .u8 20), .lit (.int .u8 15), .lit (.int .u8 25), .lit (.int .u8 17), .lit (.int .u8 4), .lit (.int .u8 8), .lit (.int .u8 31), .lit (.int .u8 27), .lit (.int .u8 13), .lit (.int .u8 23), .lit (.int .u8 21), .lit (.int .u8 19), .lit (.int .u8 16), .lit (.int .u8 7), .lit (.int .u8 26), .lit (.int .u8 12), .lit (.int .u8 18), .lit (.int .u8 6), .lit (.int .u8 11), .lit (.int .u8 5), .lit (.int .u8 10), .lit (.int .u8 9)]
def laid_math_bits_deBruijn64tab {H : Type} : DataW H := .agg [.lit (.int .u8 0), .lit (.int .u8 1), .lit (.int .u8 56), .lit (.int .u8 2), .lit (.int .u8 57), .lit (.int .u8 49), .lit (.int .u8 28), .lit (.int .u8 3), .lit (.int .u8 61), .lit (.int .u8 58), .lit (.int .u8 42), .lit (.int .u8 50), .lit (.int .u8 38), .lit (.int .u8 29), .lit (.int .u8 17), .lit (.int .u8 4), .lit (.int .u8 62), .lit (.int .u8 47), .lit (.int .u8 59), .lit (.int .u8 36), .lit (.int .u8 45), .lit (.int .u8 43), .lit (.int .u8 51), .lit (.int .u8 22), .lit (.int .u8 53), .lit (.int .u8 39), .lit (.int .u8 33), .lit (.int .u8 30), .lit (.int .u8 24), .lit (.int .u8 18), .lit (.int .u8 12), .lit (.int .u8 5), .lit (.int .u8 63), .lit (.int .u8 55), .lit (.int .u8 48), .lit (.int .u8 27), .lit (.int .u8 60), .lit (.int .u8 41), .lit (.int .u8 37), .lit (.int .u8 16), .lit (.int .u8 46), .lit (.int .u8 35), .lit (.int .u8 44), .lit (.int .u8 21), .lit (.int .u8 52), .lit (.int .u8 32), .lit (.int .u8 23), .lit (.int .u8 11), .lit (.int .u8 54), .lit (.int .u8 26), .lit (.int .u8 40), .lit (.int .u8 15), .lit (.int .u8 34), .lit (.int .u8 20), .lit (.int .u8 31), .lit (.int .u8 10), .lit (.int .u8 25), .lit (.int .u8 14), .lit (.int .u8 19), .lit (.int .u8 9), .lit (.int .u8 13), .lit (.int .u8 8), .lit (.int .u8 7), .lit (.int .u8 6)]
def laid_internal_strconv_uint64pow10 {H : Type} : DataW H := .agg [.lit (.int .u64 1), .lit (.int .u64 10), .lit (.int .u64 100), .lit (.int .u64 1000), .lit (.int .u64 10000), .lit (.int .u64 100000), .lit (.int .u64 1000000), .lit (.int .u64 10000000), .lit (.int .u64 100000000), .lit (.int .u64 1000000000), .lit (.int .u64 10000000000), .lit (.int .u64 100000000000), .lit (.int .u64 1000000000000), .lit (.int .u64 10000000000000), .lit (.int .u64 100000000000000), .lit (.int .u64 1000000000000000), .lit (.int .u64 10000000000000000), .lit (.int .u64 100000000000000000), .lit (.int .u64 1000000000000000000), .lit (.int .u64 10000000000000000000)]

/-- 'touchstonelaw12.DirsKeeps': WHATEVER THE INPUT: true; the input reads as it did. -/
def dirsKeepsSpec : ChangeSpec := { name := "dirsKeeps", fn := fun _ => fun
  | [d1, d2] => { results := [.lit (.bool true)], args := [d1, d2] }
  | _ => none }
def dirsKeepsRow : OpenClaim := { program := "ytcdbpkfbnhjgdaagreatdoor", sum := "91d49df0d2cf58ce4f9ad487f1c283b621fbfe4d1b915547c10c07234b54ebfe", func := "touchstone/touchstonelaw12.DirsKeeps", spec := "dirsKeeps", inPlace := ["internal/bytealg.IndexByteString", "internal/bytealg.IndexString", "internal/abi.NoEscape"], unfollowed := true, recurses := true, named := ["unicode/utf8.first", "unicode/utf8.acceptRanges", "internal/bytealg.MaxLen"], loops := true, apart := false, laid := [("unicode/utf8.acceptRanges", laid_unicode_utf8_acceptRanges), ("unicode/utf8.first", laid_unicode_utf8_first)] }
def DirsKeepsSaid : Prop := dirsKeepsRow.holds Tryz.pinned (OpenSpec.ofChange dirsKeepsSpec)

/-- ITS FALSE NEIGHBOUR: 'it returns false'. Refute it at one input. -/
def dirsKeepsWrong : ChangeSpec := { name := "dirsKeeps", fn := fun _ => fun
  | [d1, d2] => { results := [.lit (.bool false)], args := [d1, d2] }
  | _ => none }
def DirsKeepsWrongFalsely : Prop := dirsKeepsRow.holds Tryz.pinned (OpenSpec.ofChange dirsKeepsWrong)

/-- 'touchstonelaw12.DirsNames': WHATEVER THE INPUT: true; the input reads as it did. -/
def dirsNamesSpec : ChangeSpec := { name := "dirsNames", fn := fun _ => fun
  | [] => { results := [.lit (.bool true)], args := [] }
  | _ => none }
def dirsNamesRow : OpenClaim := { program := "ytcdbpkfbnhjgdaagreatdoor", sum := "91d49df0d2cf58ce4f9ad487f1c283b621fbfe4d1b915547c10c07234b54ebfe", func := "touchstone/touchstonelaw12.DirsNames", spec := "dirsNames", inPlace := ["internal/bytealg.IndexByteString", "internal/bytealg.IndexString", "internal/abi.NoEscape"], unfollowed := true, recurses := true, named := ["unicode/utf8.first", "unicode/utf8.acceptRanges", "internal/bytealg.MaxLen"], apart := false, laid := [("unicode/utf8.acceptRanges", laid_unicode_utf8_acceptRanges), ("unicode/utf8.first", laid_unicode_utf8_first)] }
def DirsNamesSaid : Prop := dirsNamesRow.holds Tryz.pinned (OpenSpec.ofChange dirsNamesSpec)

/-- ITS FALSE NEIGHBOUR: 'it returns false'. Refute it at one input. -/
def dirsNamesWrong : ChangeSpec := { name := "dirsNames", fn := fun _ => fun
  | [] => { results := [.lit (.bool false)], args := [] }
  | _ => none }
def DirsNamesWrongFalsely : Prop := dirsNamesRow.holds Tryz.pinned (OpenSpec.ofChange dirsNamesWrong)

/-- 'touchstonelaw12.DirsThere': WHATEVER THE INPUT: true; the input reads as it did. -/
def dirsThereSpec : ChangeSpec := { name := "dirsThere", fn := fun _ => fun
  | [d1, d2] => { results := [.lit (.bool true)], args := [d1, d2] }
  | _ => none }
def dirsThereRow : OpenClaim := { program := "ytcdbpkfbnhjgdaagreatdoor", sum := "91d49df0d2cf58ce4f9ad487f1c283b621fbfe4d1b915547c10c07234b54ebfe", func := "touchstone/touchstonelaw12.DirsThere", spec := "dirsThere", inPlace := ["internal/bytealg.IndexByteString", "internal/bytealg.IndexString", "internal/abi.NoEscape"], unfollowed := true, recurses := true, named := ["unicode/utf8.first", "unicode/utf8.acceptRanges", "internal/bytealg.MaxLen"], loops := true, apart := false, laid := [("unicode/utf8.acceptRanges", laid_unicode_utf8_acceptRanges), ("unicode/utf8.first", laid_unicode_utf8_first)] }
def DirsThereSaid : Prop := dirsThereRow.holds Tryz.pinned (OpenSpec.ofChange dirsThereSpec)

/-- ITS FALSE NEIGHBOUR: 'it returns false'. Refute it at one input. -/
def dirsThereWrong : ChangeSpec := { name := "dirsThere", fn := fun _ => fun
  | [d1, d2] => { results := [.lit (.bool false)], args := [d1, d2] }
  | _ => none }
def DirsThereWrongFalsely : Prop := dirsThereRow.holds Tryz.pinned (OpenSpec.ofChange dirsThereWrong)

/-- 'touchstonelaw13.MovesMany': WHATEVER THE INPUT: true; the input reads as it did. -/
def movesManySpec : ChangeSpec := { name := "movesMany", fn := fun _ => fun
  | [d1, d2, d3, d4] => { results := [.lit (.bool true)], args := [d1, d2, d3, d4] }
  | _ => none }
def movesManyRow : OpenClaim := { program := "ytcdbpkfbnhjgdaagreatdoor", sum := "91d49df0d2cf58ce4f9ad487f1c283b621fbfe4d1b915547c10c07234b54ebfe", func := "touchstone/touchstonelaw13.MovesMany", spec := "movesMany", inPlace := ["internal/bytealg.IndexByteString", "internal/bytealg.IndexString", "internal/abi.NoEscape", "internal/bytealg.MakeNoZero"], unfollowed := true, recurses := true, named := ["internal/bytealg.MaxLen", "unicode/utf8.first", "unicode/utf8.acceptRanges"], loops := true, apart := false, laid := [("unicode/utf8.acceptRanges", laid_unicode_utf8_acceptRanges), ("unicode/utf8.first", laid_unicode_utf8_first)] }
def MovesManySaid : Prop := movesManyRow.holds Tryz.pinned (OpenSpec.ofChange movesManySpec)

/-- ITS FALSE NEIGHBOUR: 'it returns false'. Refute it at one input. -/
def movesManyWrong : ChangeSpec := { name := "movesMany", fn := fun _ => fun
  | [d1, d2, d3, d4] => { results := [.lit (.bool false)], args := [d1, d2, d3, d4] }
  | _ => none }
def MovesManyWrongFalsely : Prop := movesManyRow.holds Tryz.pinned (OpenSpec.ofChange movesManyWrong)

/-- 'touchstonelaw13.MovesNames': WHATEVER THE INPUT: true; the input reads as it did. -/
def movesNamesSpec : ChangeSpec := { name := "movesNames", fn := fun _ => fun
  | [] => { results := [.lit (.bool true)], args := [] }
  | _ => none }
def movesNamesRow : OpenClaim := { program := "ytcdbpkfbnhjgdaagreatdoor", sum := "91d49df0d2cf58ce4f9ad487f1c283b621fbfe4d1b915547c10c07234b54ebfe", func := "touchstone/touchstonelaw13.MovesNames", spec := "movesNames", inPlace := ["internal/bytealg.IndexByteString", "internal/bytealg.IndexString", "internal/abi.NoEscape", "internal/bytealg.MakeNoZero"], unfollowed := true, recurses := true, named := ["internal/bytealg.MaxLen", "unicode/utf8.first", "unicode/utf8.acceptRanges"], apart := false, laid := [("unicode/utf8.acceptRanges", laid_unicode_utf8_acceptRanges), ("unicode/utf8.first", laid_unicode_utf8_first)] }
def MovesNamesSaid : Prop := movesNamesRow.holds Tryz.pinned (OpenSpec.ofChange movesNamesSpec)

/-- ITS FALSE NEIGHBOUR: 'it returns false'. Refute it at one input. -/
def movesNamesWrong : ChangeSpec := { name := "movesNames", fn := fun _ => fun
  | [] => { results := [.lit (.bool false)], args := [] }
  | _ => none }
def MovesNamesWrongFalsely : Prop := movesNamesRow.holds Tryz.pinned (OpenSpec.ofChange movesNamesWrong)

/-- 'touchstonelaw13.MovesOne': WHATEVER THE INPUT: true; the input reads as it did. -/
def movesOneSpec : ChangeSpec := { name := "movesOne", fn := fun _ => fun
  | [d1, d2, d3, d4] => { results := [.lit (.bool true)], args := [d1, d2, d3, d4] }
  | _ => none }
def movesOneRow : OpenClaim := { program := "ytcdbpkfbnhjgdaagreatdoor", sum := "91d49df0d2cf58ce4f9ad487f1c283b621fbfe4d1b915547c10c07234b54ebfe", func := "touchstone/touchstonelaw13.MovesOne", spec := "movesOne", inPlace := ["internal/bytealg.IndexByteString", "internal/bytealg.IndexString", "internal/abi.NoEscape", "internal/bytealg.MakeNoZero"], unfollowed := true, recurses := true, named := ["internal/bytealg.MaxLen", "unicode/utf8.first", "unicode/utf8.acceptRanges"], loops := true, apart := false, laid := [("unicode/utf8.acceptRanges", laid_unicode_utf8_acceptRanges), ("unicode/utf8.first", laid_unicode_utf8_first)] }
def MovesOneSaid : Prop := movesOneRow.holds Tryz.pinned (OpenSpec.ofChange movesOneSpec)

/-- ITS FALSE NEIGHBOUR: 'it returns false'. Refute it at one input. -/
def movesOneWrong : ChangeSpec := { name := "movesOne", fn := fun _ => fun
  | [d1, d2, d3, d4] => { results := [.lit (.bool false)], args := [d1, d2, d3, d4] }
  | _ => none }
def MovesOneWrongFalsely : Prop := movesOneRow.holds Tryz.pinned (OpenSpec.ofChange movesOneWrong)

/-- 'touchstonelaw16.IlLines': WHATEVER THE INPUT: true; the input reads as it did. -/
def ilLinesSpec : ChangeSpec := { name := "ilLines", fn := fun _ => fun
  | [d1, d2] => { results := [.lit (.bool true)], args := [d1, d2] }
  | _ => none }
def ilLinesRow : OpenClaim := { program := "ytcdbpkfbnhjgdaagreatdoor", sum := "91d49df0d2cf58ce4f9ad487f1c283b621fbfe4d1b915547c10c07234b54ebfe", func := "touchstone/touchstonelaw16.IlLines", spec := "ilLines", inPlace := ["internal/bytealg.IndexByteString", "internal/bytealg.IndexString", "internal/abi.NoEscape", "internal/bytealg.MakeNoZero"], unfollowed := true, recurses := true, named := ["internal/bytealg.MaxLen", "internal/strconv.uint64pow10", "math/bits.deBruijn32tab", "math/bits.deBruijn64tab"], loops := true, apart := false, laid := [("math/bits.deBruijn32tab", laid_math_bits_deBruijn32tab), ("math/bits.deBruijn64tab", laid_math_bits_deBruijn64tab), ("internal/strconv.uint64pow10", laid_internal_strconv_uint64pow10)] }
def IlLinesSaid : Prop := ilLinesRow.holds Tryz.pinned (OpenSpec.ofChange ilLinesSpec)

/-- ITS FALSE NEIGHBOUR: 'it returns false'. Refute it at one input. -/
def ilLinesWrong : ChangeSpec := { name := "ilLines", fn := fun _ => fun
  | [d1, d2] => { results := [.lit (.bool false)], args := [d1, d2] }
  | _ => none }
def IlLinesWrongFalsely : Prop := ilLinesRow.holds Tryz.pinned (OpenSpec.ofChange ilLinesWrong)

/-- 'touchstonelaw16.IlNames': WHATEVER THE INPUT: true; the input reads as it did. -/
def ilNamesSpec : ChangeSpec := { name := "ilNames", fn := fun _ => fun
  | [] => { results := [.lit (.bool true)], args := [] }
  | _ => none }
def ilNamesRow : OpenClaim := { program := "ytcdbpkfbnhjgdaagreatdoor", sum := "91d49df0d2cf58ce4f9ad487f1c283b621fbfe4d1b915547c10c07234b54ebfe", func := "touchstone/touchstonelaw16.IlNames", spec := "ilNames", inPlace := ["internal/bytealg.IndexByteString", "internal/bytealg.IndexString", "internal/abi.NoEscape", "internal/bytealg.MakeNoZero"], unfollowed := true, recurses := true, named := ["internal/bytealg.MaxLen", "internal/strconv.uint64pow10", "math/bits.deBruijn32tab", "math/bits.deBruijn64tab"], apart := false, laid := [("math/bits.deBruijn32tab", laid_math_bits_deBruijn32tab), ("math/bits.deBruijn64tab", laid_math_bits_deBruijn64tab), ("internal/strconv.uint64pow10", laid_internal_strconv_uint64pow10)] }
def IlNamesSaid : Prop := ilNamesRow.holds Tryz.pinned (OpenSpec.ofChange ilNamesSpec)

/-- ITS FALSE NEIGHBOUR: 'it returns false'. Refute it at one input. -/
def ilNamesWrong : ChangeSpec := { name := "ilNames", fn := fun _ => fun
  | [] => { results := [.lit (.bool false)], args := [] }
  | _ => none }
def IlNamesWrongFalsely : Prop := ilNamesRow.holds Tryz.pinned (OpenSpec.ofChange ilNamesWrong)

/-- 'touchstonelaw16.IlParts': WHATEVER THE INPUT: true; the input reads as it did. -/
def ilPartsSpec : ChangeSpec := { name := "ilParts", fn := fun _ => fun
  | [d1, d2] => { results := [.lit (.bool true)], args := [d1, d2] }
  | _ => none }
def ilPartsRow : OpenClaim := { program := "ytcdbpkfbnhjgdaagreatdoor", sum := "91d49df0d2cf58ce4f9ad487f1c283b621fbfe4d1b915547c10c07234b54ebfe", func := "touchstone/touchstonelaw16.IlParts", spec := "ilParts", inPlace := ["internal/bytealg.IndexByteString", "internal/bytealg.IndexString", "internal/abi.NoEscape", "internal/bytealg.MakeNoZero"], unfollowed := true, recurses := true, named := ["internal/bytealg.MaxLen", "internal/strconv.uint64pow10", "math/bits.deBruijn32tab", "math/bits.deBruijn64tab"], loops := true, apart := false, laid := [("math/bits.deBruijn32tab", laid_math_bits_deBruijn32tab), ("math/bits.deBruijn64tab", laid_math_bits_deBruijn64tab), ("internal/strconv.uint64pow10", laid_internal_strconv_uint64pow10)] }
def IlPartsSaid : Prop := ilPartsRow.holds Tryz.pinned (OpenSpec.ofChange ilPartsSpec)

/-- ITS FALSE NEIGHBOUR: 'it returns false'. Refute it at one input. -/
def ilPartsWrong : ChangeSpec := { name := "ilParts", fn := fun _ => fun
  | [d1, d2] => { results := [.lit (.bool false)], args := [d1, d2] }
  | _ => none }
def IlPartsWrongFalsely : Prop := ilPartsRow.holds Tryz.pinned (OpenSpec.ofChange ilPartsWrong)

/-- 'touchstonelaw16.IlShows': WHATEVER THE INPUT: true; the input reads as it did. -/
def ilShowsSpec : ChangeSpec := { name := "ilShows", fn := fun _ => fun
  | [d1, d2] => { results := [.lit (.bool true)], args := [d1, d2] }
  | _ => none }
def ilShowsRow : OpenClaim := { program := "ytcdbpkfbnhjgdaagreatdoor", sum := "91d49df0d2cf58ce4f9ad487f1c283b621fbfe4d1b915547c10c07234b54ebfe", func := "touchstone/touchstonelaw16.IlShows", spec := "ilShows", inPlace := ["internal/bytealg.IndexByteString", "internal/bytealg.IndexString", "internal/abi.NoEscape", "internal/bytealg.MakeNoZero"], unfollowed := true, recurses := true, named := ["internal/bytealg.MaxLen", "internal/strconv.uint64pow10", "math/bits.deBruijn32tab", "math/bits.deBruijn64tab"], loops := true, apart := false, laid := [("math/bits.deBruijn32tab", laid_math_bits_deBruijn32tab), ("math/bits.deBruijn64tab", laid_math_bits_deBruijn64tab), ("internal/strconv.uint64pow10", laid_internal_strconv_uint64pow10)] }
def IlShowsSaid : Prop := ilShowsRow.holds Tryz.pinned (OpenSpec.ofChange ilShowsSpec)

/-- ITS FALSE NEIGHBOUR: 'it returns false'. Refute it at one input. -/
def ilShowsWrong : ChangeSpec := { name := "ilShows", fn := fun _ => fun
  | [d1, d2] => { results := [.lit (.bool false)], args := [d1, d2] }
  | _ => none }
def IlShowsWrongFalsely : Prop := ilShowsRow.holds Tryz.pinned (OpenSpec.ofChange ilShowsWrong)

/-- 'touchstonelaw26.SpecNames': WHATEVER THE INPUT: true; the input reads as it did. -/
def specNamesSpec : ChangeSpec := { name := "specNames", fn := fun _ => fun
  | [] => { results := [.lit (.bool true)], args := [] }
  | _ => none }
def specNamesRow : OpenClaim := { program := "ytcdbpkfbnhjgdaagreatdoor", sum := "91d49df0d2cf58ce4f9ad487f1c283b621fbfe4d1b915547c10c07234b54ebfe", func := "touchstone/touchstonelaw26.SpecNames", spec := "specNames", inPlace := ["internal/bytealg.IndexByteString", "internal/bytealg.IndexString", "internal/abi.NoEscape", "internal/bytealg.MakeNoZero"], unfollowed := true, recurses := true, named := ["unicode/utf8.first", "unicode/utf8.acceptRanges", "internal/bytealg.MaxLen"], apart := false, laid := [("unicode/utf8.acceptRanges", laid_unicode_utf8_acceptRanges), ("unicode/utf8.first", laid_unicode_utf8_first)] }
def SpecNamesSaid : Prop := specNamesRow.holds Tryz.pinned (OpenSpec.ofChange specNamesSpec)

/-- ITS FALSE NEIGHBOUR: 'it returns false'. Refute it at one input. -/
def specNamesWrong : ChangeSpec := { name := "specNames", fn := fun _ => fun
  | [] => { results := [.lit (.bool false)], args := [] }
  | _ => none }
def SpecNamesWrongFalsely : Prop := specNamesRow.holds Tryz.pinned (OpenSpec.ofChange specNamesWrong)

/- THE SECOND FORM. 'bulk': how many values and letters a reading holds, each counted each time it is reached (what is shared counts as often as it is met; a slice's spare places count too). A statement '..UptoSaid' is the law's where the arguments, and the package variables that the reading takes, are together of bulk at most 1048576: NARROWER than '..Said'. Prove '..Said' where nothing that the law and all that it calls make is longer than what came in: it says more and counts as full. Else prove '..UptoSaid'. A law counts once. -/
mutual
def uptoBulk {H : Type} : DataW H → Nat
  | .lit (.string bytes) => bytes.length + 1
  | .lit _ => 1
  | .nil => 1
  | .ptr d => uptoBulk d + 1
  | .slice elems spare => uptoBulkAll elems + uptoBulkAll spare + 1
  | .agg parts => uptoBulkAll parts + 1
  | .iface _ d => uptoBulk d + 1
  | .map entries => uptoBulkEntries entries + 1
  | .held _ => 1
def uptoBulkAll {H : Type} : List (DataW H) → Nat
  | [] => 0
  | d :: r => uptoBulk d + uptoBulkAll r
def uptoBulkEntries {H : Type} : List (Lit × DataW H) → Nat
  | [] => 0
  | x :: r => uptoBulkEntry x + uptoBulkEntries r
def uptoBulkEntry {H : Type} : Lit × DataW H → Nat
  | (.string bytes, d) => bytes.length + uptoBulk d + 1
  | (_, d) => uptoBulk d + 1
 end
def uptoSmall : (H : Type) → List (DataW H) → Bool := fun _ ds => decide (uptoBulkAll ds ≤ 1048576)
def OpenSpec.upto (s : _root_.Go.ChangeSpec) : _root_.Go.OpenSpec := { _root_.Go.OpenSpec.ofChange s with cond := some uptoSmall }

/-- 'touchstonelaw12.DirsKeeps', WHERE WHAT IT READS IS OF BULK AT MOST 1048576: true; the input reads as it did. -/
def dirsKeepsUptoRow : OpenClaim := { program := "ytcdbpkfbnhjgdaagreatdoor", sum := "91d49df0d2cf58ce4f9ad487f1c283b621fbfe4d1b915547c10c07234b54ebfe", func := "touchstone/touchstonelaw12.DirsKeeps", spec := "dirsKeeps", inPlace := ["internal/bytealg.IndexByteString", "internal/bytealg.IndexString", "internal/abi.NoEscape"], unfollowed := true, recurses := true, named := ["unicode/utf8.first", "unicode/utf8.acceptRanges", "internal/bytealg.MaxLen"], loops := true, apart := false, laid := [("unicode/utf8.acceptRanges", laid_unicode_utf8_acceptRanges), ("unicode/utf8.first", laid_unicode_utf8_first)], narrowed := true }
def DirsKeepsUptoSaid : Prop := dirsKeepsUptoRow.holds Tryz.pinned (OpenSpec.upto dirsKeepsSpec)

/-- 'touchstonelaw12.DirsNames', WHERE WHAT IT READS IS OF BULK AT MOST 1048576: true; the input reads as it did. -/
def dirsNamesUptoRow : OpenClaim := { program := "ytcdbpkfbnhjgdaagreatdoor", sum := "91d49df0d2cf58ce4f9ad487f1c283b621fbfe4d1b915547c10c07234b54ebfe", func := "touchstone/touchstonelaw12.DirsNames", spec := "dirsNames", inPlace := ["internal/bytealg.IndexByteString", "internal/bytealg.IndexString", "internal/abi.NoEscape"], unfollowed := true, recurses := true, named := ["unicode/utf8.first", "unicode/utf8.acceptRanges", "internal/bytealg.MaxLen"], apart := false, laid := [("unicode/utf8.acceptRanges", laid_unicode_utf8_acceptRanges), ("unicode/utf8.first", laid_unicode_utf8_first)], narrowed := true }
def DirsNamesUptoSaid : Prop := dirsNamesUptoRow.holds Tryz.pinned (OpenSpec.upto dirsNamesSpec)

/-- 'touchstonelaw12.DirsThere', WHERE WHAT IT READS IS OF BULK AT MOST 1048576: true; the input reads as it did. -/
def dirsThereUptoRow : OpenClaim := { program := "ytcdbpkfbnhjgdaagreatdoor", sum := "91d49df0d2cf58ce4f9ad487f1c283b621fbfe4d1b915547c10c07234b54ebfe", func := "touchstone/touchstonelaw12.DirsThere", spec := "dirsThere", inPlace := ["internal/bytealg.IndexByteString", "internal/bytealg.IndexString", "internal/abi.NoEscape"], unfollowed := true, recurses := true, named := ["unicode/utf8.first", "unicode/utf8.acceptRanges", "internal/bytealg.MaxLen"], loops := true, apart := false, laid := [("unicode/utf8.acceptRanges", laid_unicode_utf8_acceptRanges), ("unicode/utf8.first", laid_unicode_utf8_first)], narrowed := true }
def DirsThereUptoSaid : Prop := dirsThereUptoRow.holds Tryz.pinned (OpenSpec.upto dirsThereSpec)

/-- 'touchstonelaw13.MovesMany', WHERE WHAT IT READS IS OF BULK AT MOST 1048576: true; the input reads as it did. -/
def movesManyUptoRow : OpenClaim := { program := "ytcdbpkfbnhjgdaagreatdoor", sum := "91d49df0d2cf58ce4f9ad487f1c283b621fbfe4d1b915547c10c07234b54ebfe", func := "touchstone/touchstonelaw13.MovesMany", spec := "movesMany", inPlace := ["internal/bytealg.IndexByteString", "internal/bytealg.IndexString", "internal/abi.NoEscape", "internal/bytealg.MakeNoZero"], unfollowed := true, recurses := true, named := ["internal/bytealg.MaxLen", "unicode/utf8.first", "unicode/utf8.acceptRanges"], loops := true, apart := false, laid := [("unicode/utf8.acceptRanges", laid_unicode_utf8_acceptRanges), ("unicode/utf8.first", laid_unicode_utf8_first)], narrowed := true }
def MovesManyUptoSaid : Prop := movesManyUptoRow.holds Tryz.pinned (OpenSpec.upto movesManySpec)

/-- 'touchstonelaw13.MovesNames', WHERE WHAT IT READS IS OF BULK AT MOST 1048576: true; the input reads as it did. -/
def movesNamesUptoRow : OpenClaim := { program := "ytcdbpkfbnhjgdaagreatdoor", sum := "91d49df0d2cf58ce4f9ad487f1c283b621fbfe4d1b915547c10c07234b54ebfe", func := "touchstone/touchstonelaw13.MovesNames", spec := "movesNames", inPlace := ["internal/bytealg.IndexByteString", "internal/bytealg.IndexString", "internal/abi.NoEscape", "internal/bytealg.MakeNoZero"], unfollowed := true, recurses := true, named := ["internal/bytealg.MaxLen", "unicode/utf8.first", "unicode/utf8.acceptRanges"], apart := false, laid := [("unicode/utf8.acceptRanges", laid_unicode_utf8_acceptRanges), ("unicode/utf8.first", laid_unicode_utf8_first)], narrowed := true }
def MovesNamesUptoSaid : Prop := movesNamesUptoRow.holds Tryz.pinned (OpenSpec.upto movesNamesSpec)

/-- 'touchstonelaw13.MovesOne', WHERE WHAT IT READS IS OF BULK AT MOST 1048576: true; the input reads as it did. -/
def movesOneUptoRow : OpenClaim := { program := "ytcdbpkfbnhjgdaagreatdoor", sum := "91d49df0d2cf58ce4f9ad487f1c283b621fbfe4d1b915547c10c07234b54ebfe", func := "touchstone/touchstonelaw13.MovesOne", spec := "movesOne", inPlace := ["internal/bytealg.IndexByteString", "internal/bytealg.IndexString", "internal/abi.NoEscape", "internal/bytealg.MakeNoZero"], unfollowed := true, recurses := true, named := ["internal/bytealg.MaxLen", "unicode/utf8.first", "unicode/utf8.acceptRanges"], loops := true, apart := false, laid := [("unicode/utf8.acceptRanges", laid_unicode_utf8_acceptRanges), ("unicode/utf8.first", laid_unicode_utf8_first)], narrowed := true }
def MovesOneUptoSaid : Prop := movesOneUptoRow.holds Tryz.pinned (OpenSpec.upto movesOneSpec)

/-- 'touchstonelaw16.IlLines', WHERE WHAT IT READS IS OF BULK AT MOST 1048576: true; the input reads as it did. -/
def ilLinesUptoRow : OpenClaim := { program := "ytcdbpkfbnhjgdaagreatdoor", sum := "91d49df0d2cf58ce4f9ad487f1c283b621fbfe4d1b915547c10c07234b54ebfe", func := "touchstone/touchstonelaw16.IlLines", spec := "ilLines", inPlace := ["internal/bytealg.IndexByteString", "internal/bytealg.IndexString", "internal/abi.NoEscape", "internal/bytealg.MakeNoZero"], unfollowed := true, recurses := true, named := ["internal/bytealg.MaxLen", "internal/strconv.uint64pow10", "math/bits.deBruijn32tab", "math/bits.deBruijn64tab"], loops := true, apart := false, laid := [("math/bits.deBruijn32tab", laid_math_bits_deBruijn32tab), ("math/bits.deBruijn64tab", laid_math_bits_deBruijn64tab), ("internal/strconv.uint64pow10", laid_internal_strconv_uint64pow10)], narrowed := true }
def IlLinesUptoSaid : Prop := ilLinesUptoRow.holds Tryz.pinned (OpenSpec.upto ilLinesSpec)

/-- 'touchstonelaw16.IlNames', WHERE WHAT IT READS IS OF BULK AT MOST 1048576: true; the input reads as it did. -/
def ilNamesUptoRow : OpenClaim := { program := "ytcdbpkfbnhjgdaagreatdoor", sum := "91d49df0d2cf58ce4f9ad487f1c283b621fbfe4d1b915547c10c07234b54ebfe", func := "touchstone/touchstonelaw16.IlNames", spec := "ilNames", inPlace := ["internal/bytealg.IndexByteString", "internal/bytealg.IndexString", "internal/abi.NoEscape", "internal/bytealg.MakeNoZero"], unfollowed := true, recurses := true, named := ["internal/bytealg.MaxLen", "internal/strconv.uint64pow10", "math/bits.deBruijn32tab", "math/bits.deBruijn64tab"], apart := false, laid := [("math/bits.deBruijn32tab", laid_math_bits_deBruijn32tab), ("math/bits.deBruijn64tab", laid_math_bits_deBruijn64tab), ("internal/strconv.uint64pow10", laid_internal_strconv_uint64pow10)], narrowed := true }
def IlNamesUptoSaid : Prop := ilNamesUptoRow.holds Tryz.pinned (OpenSpec.upto ilNamesSpec)

/-- 'touchstonelaw16.IlParts', WHERE WHAT IT READS IS OF BULK AT MOST 1048576: true; the input reads as it did. -/
def ilPartsUptoRow : OpenClaim := { program := "ytcdbpkfbnhjgdaagreatdoor", sum := "91d49df0d2cf58ce4f9ad487f1c283b621fbfe4d1b915547c10c07234b54ebfe", func := "touchstone/touchstonelaw16.IlParts", spec := "ilParts", inPlace := ["internal/bytealg.IndexByteString", "internal/bytealg.IndexString", "internal/abi.NoEscape", "internal/bytealg.MakeNoZero"], unfollowed := true, recurses := true, named := ["internal/bytealg.MaxLen", "internal/strconv.uint64pow10", "math/bits.deBruijn32tab", "math/bits.deBruijn64tab"], loops := true, apart := false, laid := [("math/bits.deBruijn32tab", laid_math_bits_deBruijn32tab), ("math/bits.deBruijn64tab", laid_math_bits_deBruijn64tab), ("internal/strconv.uint64pow10", laid_internal_strconv_uint64pow10)], narrowed := true }
def IlPartsUptoSaid : Prop := ilPartsUptoRow.holds Tryz.pinned (OpenSpec.upto ilPartsSpec)

/-- 'touchstonelaw16.IlShows', WHERE WHAT IT READS IS OF BULK AT MOST 1048576: true; the input reads as it did. -/
def ilShowsUptoRow : OpenClaim := { program := "ytcdbpkfbnhjgdaagreatdoor", sum := "91d49df0d2cf58ce4f9ad487f1c283b621fbfe4d1b915547c10c07234b54ebfe", func := "touchstone/touchstonelaw16.IlShows", spec := "ilShows", inPlace := ["internal/bytealg.IndexByteString", "internal/bytealg.IndexString", "internal/abi.NoEscape", "internal/bytealg.MakeNoZero"], unfollowed := true, recurses := true, named := ["internal/bytealg.MaxLen", "internal/strconv.uint64pow10", "math/bits.deBruijn32tab", "math/bits.deBruijn64tab"], loops := true, apart := false, laid := [("math/bits.deBruijn32tab", laid_math_bits_deBruijn32tab), ("math/bits.deBruijn64tab", laid_math_bits_deBruijn64tab), ("internal/strconv.uint64pow10", laid_internal_strconv_uint64pow10)], narrowed := true }
def IlShowsUptoSaid : Prop := ilShowsUptoRow.holds Tryz.pinned (OpenSpec.upto ilShowsSpec)

/-- 'touchstonelaw26.SpecNames', WHERE WHAT IT READS IS OF BULK AT MOST 1048576: true; the input reads as it did. -/
def specNamesUptoRow : OpenClaim := { program := "ytcdbpkfbnhjgdaagreatdoor", sum := "91d49df0d2cf58ce4f9ad487f1c283b621fbfe4d1b915547c10c07234b54ebfe", func := "touchstone/touchstonelaw26.SpecNames", spec := "specNames", inPlace := ["internal/bytealg.IndexByteString", "internal/bytealg.IndexString", "internal/abi.NoEscape", "internal/bytealg.MakeNoZero"], unfollowed := true, recurses := true, named := ["unicode/utf8.first", "unicode/utf8.acceptRanges", "internal/bytealg.MaxLen"], apart := false, laid := [("unicode/utf8.acceptRanges", laid_unicode_utf8_acceptRanges), ("unicode/utf8.first", laid_unicode_utf8_first)], narrowed := true }
def SpecNamesUptoSaid : Prop := specNamesUptoRow.holds Tryz.pinned (OpenSpec.upto specNamesSpec)

end Rows
end Go.Proofs.YtcdbpkfbnhjgdaaGreatDoor
