/-
  The abstract machine's functions are the dump's. By program.
-/
import Derived.Test.YtkkfjoiffcmpeaaDoorRows
import Derived.Test.YtkkfjoiffcmpeaaDoorAmRf
import Derived.Test.YtkkfjoiffcmpeaaDoorFns
import Derived.Test.YtkkfjoiffcmpeaaDoorPrims
import Derived.KernelRfl
import Derived.Test.YtkkfjoiffcmpeaaDoorAmTyped
import Derived.Laws.RangeAny
set_option linter.all false
set_option linter.unusedVariables false
set_option linter.unusedSimpArgs false
set_option linter.unusedSectionVars false
set_option maxRecDepth 100000
namespace Go.Proofs.YtkkfjoiffcmpeaaDoor
open Go.Proofs.YtkkfjoiffcmpeaaDoor.Am Go.Proofs
def gt : Nat → Option (List AV)
  | _ => none
theorem l_touchstonelaw14_ProbeNot : compF Tryd.prog gt false false [] Tryd.f4 = some c_touchstonelaw14_ProbeNot := by kernel_rfl
theorem l_ftree_New : compF Tryd.prog gt false false [] Tryd.f8 = some c_ftree_New := by kernel_rfl
theorem l_walk_Find : compF Tryd.prog gt false false [] Tryd.f9 = some c_walk_Find := by kernel_rfl
theorem l_walk_Spot : compF Tryd.prog gt false false [] Tryd.f10 = some c_walk_Spot := by kernel_rfl
theorem l_ftree_Tree_Kind : compF Tryd.prog gt false false [] Tryd.f13 = some c_ftree_Tree_Kind := by kernel_rfl
theorem l_path_Name : compF Tryd.prog gt false false [] Tryd.f16 = some c_path_Name := by kernel_rfl
theorem l_touchstonelaw14_long : compF Tryd.prog gt false false [] Tryd.f17 = some c_touchstonelaw14_long := by kernel_rfl
theorem l_touchstonelaw14_awake : compF Tryd.prog gt false false [] Tryd.f18 = some cR_touchstonelaw14_awake := by kernel_rfl
theorem l_probe_Holds : compF Tryd.prog gt false false [] Tryd.f19 = some c_probe_Holds := by kernel_rfl
theorem l_probe_Run : compF Tryd.prog gt false false [18] Tryd.f20 = some c_probe_Run := by kernel_rfl
theorem l_ftree_May : compF Tryd.prog gt false false [] Tryd.f29 = some c_ftree_May := by kernel_rfl
theorem l_ftree_own : compF Tryd.prog gt false false [] Tryd.f30 = some c_ftree_own := by kernel_rfl
theorem l_walk_walk : compF Tryd.prog gt false false [] Tryd.f31 = some c_walk_walk := by kernel_rfl
theorem l_ftree_Tree_at : compF Tryd.prog gt false false [] Tryd.f34 = some c_ftree_Tree_at := by kernel_rfl
theorem l_path_steps : compF Tryd.prog gt false false [] Tryd.f35 = some c_path_steps := by kernel_rfl
theorem l_strings_ContainsAny : compF Tryd.prog gt false false [] Tryd.f36 = some c_strings_ContainsAny := by kernel_rfl
theorem l_touchstoneref07_May : compF Tryd.prog gt false false [] Tryd.f37 = some c_touchstoneref07_May := by kernel_rfl
theorem l_touchstoneref07_Nodes : compF Tryd.prog gt false false [] Tryd.f38 = some c_touchstoneref07_Nodes := by kernel_rfl
theorem l_touchstonelaw14_example : compF Tryd.prog gt false false [] Tryd.f39 = some c_touchstonelaw14_example := by kernel_rfl
theorem l_probe_asks : compF Tryd.prog gt false false [] Tryd.f40 = some c_probe_asks := by kernel_rfl
theorem l_ftree_Well : compF Tryd.prog gt false false [] Tryd.f41 = some c_ftree_Well := by kernel_rfl
theorem l_ftree_Nodes : compF Tryd.prog gt false false [] Tryd.f42 = some c_ftree_Nodes := by kernel_rfl
theorem l_ftree_depth : compF Tryd.prog gt false false [] Tryd.f43 = some c_ftree_depth := by kernel_rfl
theorem l_slices_Clone_string_string : compF Tryd.prog gt true false [] Tryd.f44 = some c_slices_Clone_string_string := by kernel_rfl
theorem l_path_Steps : compF Tryd.prog gt false false [] Tryd.f45 = some c_path_Steps := by kernel_rfl
theorem l_path_Dir : compF Tryd.prog gt false false [] Tryd.f46 = some c_path_Dir := by kernel_rfl
theorem l_walk_walker_run : compF Tryd.prog gt false false [5] Tryd.f47 = some c_walk_walker_run := by kernel_rfl
theorem l_ftree_find : compF Tryd.prog gt false false [] Tryd.f51 = some c_ftree_find := by kernel_rfl
theorem l_path_steps_1 : compF Tryd.prog gt false false [] Tryd.f52 = some c_path_steps_1 := by kernel_rfl
theorem l_strings_SplitSeq : compF Tryd.prog gt false false [] Tryd.f53 = some c_strings_SplitSeq := by kernel_rfl
theorem l_strings_IndexAny : compF Tryd.prog gt false false [] Tryd.f54 = some c_strings_IndexAny := by kernel_rfl
theorem l_touchstoneref07_Well : compF Tryd.prog gt false false [] Tryd.f55 = some c_touchstoneref07_Well := by kernel_rfl
theorem l_touchstoneref07_deep : compF Tryd.prog gt false false [] Tryd.f56 = some c_touchstoneref07_deep := by kernel_rfl
theorem l_probe_asks_1 : compF Tryd.prog gt false false [] Tryd.f57 = some c_probe_asks_1 := by kernel_rfl
theorem l_probe_asks_1_1 : compF Tryd.prog gt false false [] Tryd.f58 = some c_probe_asks_1_1 := by kernel_rfl
theorem l_probe_kind : compF Tryd.prog gt false false [] Tryd.f59 = some c_probe_kind := by kernel_rfl
theorem l_probe_asks_2 : compF Tryd.prog gt false false [] Tryd.f60 = some c_probe_asks_2 := by kernel_rfl
theorem l_probe_asks_2_1 : compF Tryd.prog gt false false [] Tryd.f61 = some c_probe_asks_2_1 := by kernel_rfl
theorem l_probe_asks_3 : compF Tryd.prog gt false false [] Tryd.f62 = some c_probe_asks_3 := by kernel_rfl
theorem l_probe_asks_4 : compF Tryd.prog gt false false [] Tryd.f63 = some c_probe_asks_4 := by kernel_rfl
theorem l_probe_asks_5 : compF Tryd.prog gt false false [] Tryd.f64 = some c_probe_asks_5 := by kernel_rfl
theorem l_strings_IndexByte : compF Tryd.prog gt false false [] Tryd.f65 = some c_strings_IndexByte := by kernel_rfl
theorem l_slices_Collect_string : compF Tryd.prog gt false false [] Tryd.f66 = some c_slices_Collect_string := by kernel_rfl
theorem l_strings_LastIndexByte : compF Tryd.prog gt false false [] Tryd.f67 = some c_strings_LastIndexByte := by kernel_rfl
theorem l_walk_walker_name : compF Tryd.prog gt false false [] Tryd.f68 = some c_walk_walker_name := by kernel_rfl
theorem l_slices_BinarySearch_string_string : compF Tryd.prog gt false false [] Tryd.f71 = some c_slices_BinarySearch_string_string := by kernel_rfl
theorem l_strings_splitSeq : compF Tryd.prog gt false false [] Tryd.f72 = some c_strings_splitSeq := by kernel_rfl
theorem l_strings_IndexRune : compF Tryd.prog gt false false [] Tryd.f73 = some c_strings_IndexRune := by kernel_rfl
theorem l_strings_shouldUseASCIISet : compF Tryd.prog gt false false [] Tryd.f74 = some c_strings_shouldUseASCIISet := by kernel_rfl
theorem l_strings_makeASCIISet : compF Tryd.prog gt false false [] Tryd.f75 = some c_strings_makeASCIISet := by kernel_rfl
theorem l_strings_asciiSet_contains : compF Tryd.prog gt false false [] Tryd.f76 = some c_strings_asciiSet_contains := by kernel_rfl
theorem l_touchstoneref07_text : compF Tryd.prog gt false false [] Tryd.f77 = some c_touchstoneref07_text := by kernel_rfl
theorem l_touchstoneref06_Name : compF Tryd.prog gt false false [] Tryd.f78 = some c_touchstoneref06_Name := by kernel_rfl
theorem l_path_Check : compF Tryd.prog gt false false [] Tryd.f79 = some c_path_Check := by kernel_rfl
theorem l_internal_stringslite_IndexByte : compF Tryd.prog gt false false [] Tryd.f80 = some c_internal_stringslite_IndexByte := by kernel_rfl
theorem l_slices_AppendSeq_string_string : compF Tryd.prog gt false true [] Tryd.f81 = some c_slices_AppendSeq_string_string := by kernel_rfl
theorem l_internal_bytealg_LastIndexByteString : compF Tryd.prog gt false false [] Tryd.f82 = some c_internal_bytealg_LastIndexByteString := by kernel_rfl
theorem l_walk_walker_below : compF Tryd.prog gt false false [] Tryd.f83 = some c_walk_walker_below := by kernel_rfl
theorem l_walk_walker_follow : compF Tryd.prog gt false false [] Tryd.f84 = some c_walk_walker_follow := by kernel_rfl
theorem l_cmp_Less_string : compF Tryd.prog gt false false [] Tryd.f87 = some c_cmp_Less_string := by kernel_rfl
theorem l_slices_isNaN_string : compF Tryd.prog gt false false [] Tryd.f88 = some c_slices_isNaN_string := by kernel_rfl
theorem l_strings_splitSeq_1 : compF Tryd.prog gt false false [] Tryd.f89 = some c_strings_splitSeq_1 := by kernel_rfl
theorem l_unicode_utf8_DecodeRuneInString : compF Tryd.prog gt false false [] Tryd.f90 = some c_unicode_utf8_DecodeRuneInString := by kernel_rfl
theorem l_strings_Index : compF Tryd.prog gt false false [] Tryd.f91 = some c_strings_Index := by kernel_rfl
theorem l_unicode_utf8_ValidRune : compF Tryd.prog gt false false [] Tryd.f92 = some c_unicode_utf8_ValidRune := by kernel_rfl
theorem l_internal_bytealg_Cutover : compF Tryd.prog gt false false [] Tryd.f93 = some c_internal_bytealg_Cutover := by kernel_rfl
theorem l_strings_Contains : compF Tryd.prog gt false false [] Tryd.f95 = some c_strings_Contains := by kernel_rfl
theorem l_strings_HasPrefix : compF Tryd.prog gt false false [] Tryd.f97 = some c_strings_HasPrefix := by kernel_rfl
theorem l_cmp_isNaN_string : compF Tryd.prog gt false false [] Tryd.f98 = some c_cmp_isNaN_string := by kernel_rfl
theorem l_unicode_utf8_decodeRuneInStringSlow : compF Tryd.prog gt false false [] Tryd.f99 = some c_unicode_utf8_decodeRuneInStringSlow := by kernel_rfl
theorem l_internal_stringslite_Index : compF Tryd.prog gt false false [] Tryd.f100 = some c_internal_stringslite_Index := by kernel_rfl
theorem l_internal_stringslite_HasPrefix : compF Tryd.prog gt false false [] Tryd.f101 = some c_internal_stringslite_HasPrefix := by kernel_rfl
theorem l_internal_bytealg_IndexRabinKarp_string : compF Tryd.prog gt false false [] Tryd.f102 = some c_internal_bytealg_IndexRabinKarp_string := by kernel_rfl
theorem l_internal_bytealg_hashStr_string : compF Tryd.prog gt false false [] Tryd.f103 = some c_internal_bytealg_hashStr_string := by kernel_rfl
theorem l_ftree_Tree_Text : compF Tryd.prog gt false false [] Tryd.f121 = some c_ftree_Tree_Text := by kernel_rfl
theorem tabC_ok : tabC.All (FunOk Tryd.prog gt) :=
  ⟨.inl ⟨rfl, Tryd.f63, [], false, Tryd.func63, l_probe_asks_4⟩, ⟨.inl ⟨rfl, Tryd.f41, [], false, Tryd.func41, l_ftree_Well⟩, ⟨.inl ⟨rfl, Tryd.f29, [], false, Tryd.func29, l_ftree_May⟩, ⟨.inl ⟨rfl, Tryd.f16, [], false, Tryd.func16, l_path_Name⟩, ⟨.inl ⟨rfl, Tryd.f10, [], false, Tryd.func10, l_walk_Spot⟩, ⟨.inl ⟨rfl, Tryd.f9, [], false, Tryd.func9, l_walk_Find⟩, ⟨.inl ⟨rfl, Tryd.f8, [], false, Tryd.func8, l_ftree_New⟩, trivial, trivial⟩, trivial⟩, ⟨.inl ⟨rfl, Tryd.f13, [], false, Tryd.func13, l_ftree_Tree_Kind⟩, trivial, trivial⟩⟩, ⟨.inl ⟨rfl, Tryd.f19, [], false, Tryd.func19, l_probe_Holds⟩, ⟨.inl ⟨rfl, Tryd.f18, [], false, Tryd.func18, l_touchstonelaw14_awake⟩, trivial, trivial⟩, ⟨.inl ⟨rfl, Tryd.f20, [18], false, Tryd.func20, l_probe_Run⟩, trivial, trivial⟩⟩⟩, ⟨.inl ⟨rfl, Tryd.f35, [], false, Tryd.func35, l_path_steps⟩, ⟨.inr ⟨_, rfl, primOk_strings_Join⟩, ⟨.inl ⟨rfl, Tryd.f31, [], false, Tryd.func31, l_walk_walk⟩, ⟨.inl ⟨rfl, Tryd.f30, [], false, Tryd.func30, l_ftree_own⟩, trivial, trivial⟩, trivial⟩, ⟨.inl ⟨rfl, Tryd.f34, [], false, Tryd.func34, l_ftree_Tree_at⟩, trivial, trivial⟩⟩, ⟨.inl ⟨rfl, Tryd.f39, [], false, Tryd.func39, l_touchstonelaw14_example⟩, ⟨.inl ⟨rfl, Tryd.f36, [], false, Tryd.func36, l_strings_ContainsAny⟩, trivial, trivial⟩, ⟨.inl ⟨rfl, Tryd.f40, [], false, Tryd.func40, l_probe_asks⟩, trivial, trivial⟩⟩⟩⟩, ⟨.inl ⟨rfl, Tryd.f53, [], false, Tryd.func53, l_strings_SplitSeq⟩, ⟨.inl ⟨rfl, Tryd.f46, [], false, Tryd.func46, l_path_Dir⟩, ⟨.inl ⟨rfl, Tryd.f44, [], false, Tryd.func44, l_slices_Clone_string_string⟩, ⟨.inl ⟨rfl, Tryd.f43, [], false, Tryd.func43, l_ftree_depth⟩, ⟨.inl ⟨rfl, Tryd.f42, [], false, Tryd.func42, l_ftree_Nodes⟩, trivial, trivial⟩, trivial⟩, ⟨.inl ⟨rfl, Tryd.f45, [], false, Tryd.func45, l_path_Steps⟩, trivial, trivial⟩⟩, ⟨.inl ⟨rfl, Tryd.f51, [], false, Tryd.func51, l_ftree_find⟩, ⟨.inl ⟨rfl, Tryd.f47, [5], false, Tryd.func47, l_walk_walker_run⟩, trivial, trivial⟩, ⟨.inl ⟨rfl, Tryd.f52, [], false, Tryd.func52, l_path_steps_1⟩, trivial, trivial⟩⟩⟩, ⟨.inl ⟨rfl, Tryd.f59, [], false, Tryd.func59, l_probe_kind⟩, ⟨.inl ⟨rfl, Tryd.f57, [], false, Tryd.func57, l_probe_asks_1⟩, ⟨.inl ⟨rfl, Tryd.f54, [], false, Tryd.func54, l_strings_IndexAny⟩, trivial, trivial⟩, ⟨.inl ⟨rfl, Tryd.f58, [], false, Tryd.func58, l_probe_asks_1_1⟩, trivial, trivial⟩⟩, ⟨.inl ⟨rfl, Tryd.f61, [], false, Tryd.func61, l_probe_asks_2_1⟩, ⟨.inl ⟨rfl, Tryd.f60, [], false, Tryd.func60, l_probe_asks_2⟩, trivial, trivial⟩, ⟨.inl ⟨rfl, Tryd.f62, [], false, Tryd.func62, l_probe_asks_3⟩, trivial, trivial⟩⟩⟩⟩⟩, ⟨.inl ⟨rfl, Tryd.f84, [], false, Tryd.func84, l_walk_walker_follow⟩, ⟨.inl ⟨rfl, Tryd.f74, [], false, Tryd.func74, l_strings_shouldUseASCIISet⟩, ⟨.inl ⟨rfl, Tryd.f68, [], false, Tryd.func68, l_walk_walker_name⟩, ⟨.inl ⟨rfl, Tryd.f66, [], false, Tryd.func66, l_slices_Collect_string⟩, ⟨.inl ⟨rfl, Tryd.f65, [], false, Tryd.func65, l_strings_IndexByte⟩, ⟨.inl ⟨rfl, Tryd.f64, [], false, Tryd.func64, l_probe_asks_5⟩, trivial, trivial⟩, trivial⟩, ⟨.inl ⟨rfl, Tryd.f67, [], false, Tryd.func67, l_strings_LastIndexByte⟩, trivial, trivial⟩⟩, ⟨.inl ⟨rfl, Tryd.f72, [], false, Tryd.func72, l_strings_splitSeq⟩, ⟨.inl ⟨rfl, Tryd.f71, [], false, Tryd.func71, l_slices_BinarySearch_string_string⟩, trivial, trivial⟩, ⟨.inl ⟨rfl, Tryd.f73, [], false, Tryd.func73, l_strings_IndexRune⟩, trivial, trivial⟩⟩⟩, ⟨.inl ⟨rfl, Tryd.f80, [], false, Tryd.func80, l_internal_stringslite_IndexByte⟩, ⟨.inl ⟨rfl, Tryd.f76, [], false, Tryd.func76, l_strings_asciiSet_contains⟩, ⟨.inl ⟨rfl, Tryd.f75, [], false, Tryd.func75, l_strings_makeASCIISet⟩, trivial, trivial⟩, ⟨.inl ⟨rfl, Tryd.f79, [], false, Tryd.func79, l_path_Check⟩, trivial, trivial⟩⟩, ⟨.inl ⟨rfl, Tryd.f82, [], false, Tryd.func82, l_internal_bytealg_LastIndexByteString⟩, ⟨.inl ⟨rfl, Tryd.f81, [], true, Tryd.func81, l_slices_AppendSeq_string_string⟩, trivial, trivial⟩, ⟨.inl ⟨rfl, Tryd.f83, [], false, Tryd.func83, l_walk_walker_below⟩, trivial, trivial⟩⟩⟩⟩, ⟨.inl ⟨rfl, Tryd.f97, [], false, Tryd.func97, l_strings_HasPrefix⟩, ⟨.inl ⟨rfl, Tryd.f91, [], false, Tryd.func91, l_strings_Index⟩, ⟨.inl ⟨rfl, Tryd.f89, [], false, Tryd.func89, l_strings_splitSeq_1⟩, ⟨.inl ⟨rfl, Tryd.f88, [], false, Tryd.func88, l_slices_isNaN_string⟩, ⟨.inl ⟨rfl, Tryd.f87, [], false, Tryd.func87, l_cmp_Less_string⟩, trivial, trivial⟩, trivial⟩, ⟨.inl ⟨rfl, Tryd.f90, [], false, Tryd.func90, l_unicode_utf8_DecodeRuneInString⟩, trivial, trivial⟩⟩, ⟨.inl ⟨rfl, Tryd.f93, [], false, Tryd.func93, l_internal_bytealg_Cutover⟩, ⟨.inl ⟨rfl, Tryd.f92, [], false, Tryd.func92, l_unicode_utf8_ValidRune⟩, trivial, trivial⟩, ⟨.inl ⟨rfl, Tryd.f95, [], false, Tryd.func95, l_strings_Contains⟩, trivial, trivial⟩⟩⟩, ⟨.inl ⟨rfl, Tryd.f101, [], false, Tryd.func101, l_internal_stringslite_HasPrefix⟩, ⟨.inl ⟨rfl, Tryd.f99, [], false, Tryd.func99, l_unicode_utf8_decodeRuneInStringSlow⟩, ⟨.inl ⟨rfl, Tryd.f98, [], false, Tryd.func98, l_cmp_isNaN_string⟩, trivial, trivial⟩, ⟨.inl ⟨rfl, Tryd.f100, [], false, Tryd.func100, l_internal_stringslite_Index⟩, trivial, trivial⟩⟩, ⟨.inl ⟨rfl, Tryd.f103, [], false, Tryd.func103, l_internal_bytealg_hashStr_string⟩, ⟨.inl ⟨rfl, Tryd.f102, [], false, Tryd.func102, l_internal_bytealg_IndexRabinKarp_string⟩, trivial, trivial⟩, ⟨.inl ⟨rfl, Tryd.f121, [], false, Tryd.func121, l_ftree_Tree_Text⟩, trivial, trivial⟩⟩⟩⟩⟩⟩
theorem fnsC_ok : ∀ (f : Nat) (fn : Fun), progC f = some fn → FunOk Tryd.prog gt f fn := fun f fn h => PT.all_get tabC_ok h
end Go.Proofs.YtkkfjoiffcmpeaaDoor

/-
  What the functions of path come to on the abstract machine.
-/
set_option maxRecDepth 100000
set_option linter.unusedSimpArgs false
namespace Go.Proofs.YtkkfjoiffcmpeaaDoor
open Go.Proofs.YtkkfjoiffcmpeaaDoor.Am
abbrev tx (L : List (List Nat)) : AV := .ws false 1 (L.map .s)
theorem natOf_nat (k : IntKind) (i : Nat) : natOf (.i k (i : Int)) = some i := by simp [natOf]
theorem ldA_1 (s : St) (v : AV) : ldA s false 1 (.ep [v] 0 .shut) = some v := rfl
theorem cells_s (l : List Nat) : (AV.s l).cells = [.s l] := rfl
theorem wrap_nat {i : Nat} (h : i < 2 ^ 63) : IntKind.i64.wrap (i : Int) = i := by
  have e1 : ((i : Int) % 2 ^ 64) = i := by omega
  simp only [IntKind.wrap, IntKind.signed, IntKind.bits, e1]
  rw [if_neg]
  simp; omega
theorem wrap_succ {i : Nat} (h : i + 1 < 2 ^ 63) : IntKind.i64.wrap ((i : Int) + 1) = ((i + 1 : Nat) : Int) := by
  rw [← wrap_nat h]; simp
theorem ofNat_len (n : Nat) : Int.ofNat n = (n : Int) := rfl
end Go.Proofs.YtkkfjoiffcmpeaaDoor

/-
  Nodes of trees as plain data.
-/
set_option maxRecDepth 100000
set_option linter.unusedSimpArgs false
set_option linter.constructorNameAsVariable false
namespace Go.Proofs.YtkkfjoiffcmpeaaDoor
open Go.Proofs.YtkkfjoiffcmpeaaDoor.Am
inductive ND where
  | mk (k : Nat) (t : List Nat) (ns : List (List Nat)) (ks : List ND)
def ND.kind : ND → Nat | .mk k _ _ _ => k
def ND.text : ND → List Nat | .mk _ t _ _ => t
def ND.names : ND → List (List Nat) | .mk _ _ ns _ => ns
def ND.kids : ND → List ND | .mk _ _ _ ks => ks
mutual
def ND.av : ND → AV
  | .mk k t ns ks => .agg [.i .u8 (k : Nat), .s t, tx ns, .ws false 4 (ND.avs ks)]
def ND.avs : List ND → List AV
  | [] => []
  | n :: l => n.av :: ND.avs l
end
theorem ND.avs_map : ∀ l : List ND, ND.avs l = l.map ND.av
  | [] => by simp [ND.avs]
  | n :: l => by simp only [ND.avs, ND.avs_map l, List.map_cons]
def ND.cells (n : ND) : List AV := [.i .u8 (n.kind : Nat), .s n.text, tx n.names, .ws false 4 (n.kids.map ND.av)]
theorem ND.av_eq (n : ND) : n.av = .agg n.cells := by
  cases n with
  | mk k t ns ks => simp only [ND.av, ND.avs_map, ND.cells, ND.kind, ND.text, ND.names, ND.kids]
theorem ND.lt {n k : ND} (h : k ∈ n.kids) : SizeOf.sizeOf k < SizeOf.sizeOf n := by
  cases n with
  | mk a t ns ks =>
    have h : k ∈ ks := h
    have := List.sizeOf_lt_of_mem h
    simp only [ND.mk.sizeOf_spec]
    omega
theorem ND.ind {P : ND → Prop} (h : ∀ n, (∀ k ∈ n.kids, P k) → P n) (n : ND) : P n := by
  have : ∀ (m : Nat) (n : ND), SizeOf.sizeOf n < m → P n := by
    intro m
    induction m with
    | zero => intro n hn; omega
    | succ m ih =>
      intro n hn
      exact h n fun k hk => ih k (by have := ND.lt hk; omega)
  exact this _ n (Nat.lt_succ_self _)
mutual
def nodesN : ND → Nat
  | .mk _ _ _ ks => 1 + nodesS ks
def nodesS : List ND → Nat
  | [] => 0
  | k :: ks => nodesN k + nodesS ks
end
theorem nodesS_sum : ∀ l : List ND, nodesS l = (l.map nodesN).sum
  | [] => by simp [nodesS]
  | k :: l => by simp only [nodesS, nodesS_sum l, List.map_cons, List.sum_cons]
theorem nodesN_eq (n : ND) : nodesN n = 1 + (n.kids.map nodesN).sum := by
  cases n with
  | mk a t ns ks => simp only [nodesN, nodesS_sum, ND.kids]
mutual
def deepN : ND → Nat
  | .mk _ _ _ ks => deepS ks
def deepS : List ND → Nat
  | [] => 0
  | k :: ks => max (1 + deepN k) (deepS ks)
end
theorem deepS_fold : ∀ (l : List ND), deepS l = (l.map fun k => 1 + deepN k).foldr max 0
  | [] => by simp [deepS]
  | k :: l => by simp only [deepS, deepS_fold l, List.map_cons, List.foldr_cons]
theorem deepN_eq (n : ND) : deepN n = (n.kids.map fun k => 1 + deepN k).foldr max 0 := by
  cases n with
  | mk a t ns ks => simp only [deepN, deepS_fold, ND.kids]
theorem sum_mem_le {α : Type} {f : α → Nat} {l : List α} {a : α} (h : a ∈ l) : f a ≤ (l.map f).sum := by
  induction l with
  | nil => cases h
  | cons b l ih =>
    rw [List.map_cons, List.sum_cons]
    rcases List.mem_cons.1 h with rfl | h
    · omega
    · have := ih h; omega
theorem sum_take_le {α : Type} (f : α → Nat) (l : List α) (i : Nat) : ((l.take i).map f).sum ≤ (l.map f).sum := by
  induction l generalizing i with
  | nil => simp
  | cons a l ih => cases i with
    | zero => simp
    | succ i => simp only [List.take_succ_cons, List.map_cons, List.sum_cons]; have := ih i; omega
theorem sum_take_succ {α : Type} (f : α → Nat) {l : List α} {i : Nat} {a : α} (h : l[i]? = some a) : ((l.take (i + 1)).map f).sum = ((l.take i).map f).sum + f a := by
  rw [List.take_add_one, h]
  simp
end Go.Proofs.YtkkfjoiffcmpeaaDoor

/-
  ftree.Nodes and ftree.depth.
-/
set_option maxRecDepth 100000
set_option linter.unusedSimpArgs false
set_option linter.constructorNameAsVariable false
namespace Go.Proofs.YtkkfjoiffcmpeaaDoor
open Go.Proofs.YtkkfjoiffcmpeaaDoor.Am
attribute [local irreducible] W WO WE WQ WD Tr.get Tr.set
theorem kid_get {n : ND} {i : Nat} {k : ND} (h : n.kids[i]? = some k) : (n.kids.map ND.av)[i]? = some (.agg k.cells) := by
  rw [List.getElem?_map, h, Option.map_some, ND.av_eq]
theorem cells4 (k : ND) : k.cells.length = 4 := rfl
theorem ones4 (k : ND) : ones k.cells = true := rfl
theorem pub_cells (k : ND) (s : St) : pubL s k.cells = some (k.cells, s) := rfl
theorem frz_cells (k : ND) (s : St) : frzL s k.cells = some (k.cells, s) := rfl
theorem av_refs : ∀ n : ND, n.av.refs = false := by
  refine ND.ind fun n ih => ?_
  have : ∀ l : List ND, (∀ k ∈ l, k.av.refs = false) → AV.refs.go (l.map ND.av) = false := by
    intro l
    induction l with
    | nil => intro _; rfl
    | cons a l il =>
      intro h
      simp only [List.map_cons, AV.refs.go, h a (by simp), il fun k hk => h k (by simp [hk]), Bool.or_self]
  rw [ND.av_eq]
  simp only [ND.cells, AV.refs, AV.refs.go, this _ ih, refs_goS, Bool.or_self]
theorem nodes_ok : ∀ n : ND, nodesN n < 2 ^ 62 → ∀ s, Wf s → (lim prog).call f_ftree_Nodes [.agg n.cells] s = some (.i .i64 (nodesN n : Nat), s) := by
  refine ND.ind fun n ih hb s hw => ?_
  refine fn_W p_ftree_Nodes rfl rfl ?_
  have H1 := (Hp.begin hw).new (.cells 25 n.cells)
  generalize hq : s.enter.new (.cells 25 n.cells) = q at H1
  generalize hm : s.enter.nb = m at H1
  have l1 := H1.ld 0 (off := 3) (v := .ws false 4 (n.kids.map ND.av)) rfl rfl
  have hN := nodesN_eq n
  have hk : n.kids.length ≤ (n.kids.map nodesN).sum := by
    generalize n.kids = l
    induction l with
    | nil => simp
    | cons a l il => simp only [List.length_cons, List.map_cons, List.sum_cons]; have := nodesN_eq a; omega
  have hc0 : (AV.agg n.cells).cells = n.cells := rfl
  have hz0 : wkZ c_ftree_Nodes.cin [.agg n.cells] = [.agg n.cells] := by simp [c_ftree_Nodes, wkZ, wk, ND.cells]
  rw [hz0]
  simp only [c_ftree_Nodes, go_sem, W_cond2, WO_guard3, WE_guard3, WQ_guard3, KB_n, KB_x, Nat.reduceBEq, Nat.reduceAdd, Nat.reduceLT, Nat.reduceLeDiff, Nat.reduceEqDiff, reduceIte, Int.reduceEq, reduceCtorEq, cells4, hq, hm, l1, Nat.zero_add]
  refine W_loop (fun x e q => ∃ i : Nat, i + x = n.kids.length ∧ Hp s q s.en [] [(m, .cells 25 n.cells)] ∧ e.get 1 = .p m 0 ∧ e.get 3 = .i .i64 ((1 + ((n.kids.take i).map nodesN).sum : Nat) : Int) ∧ e.get 7 = .ws false 4 (n.kids.map ND.av) ∧ e.get 8 = .i .i64 (n.kids.length : Nat) ∧ e.get 9 = .i .i64 (i : Nat)) ?_ n.kids.length _ _ ?_
  · rintro x e q' ⟨i, hi, H, g1, g3, g7, g8, g9⟩
    by_cases h : i < n.kids.length
    · have e1 : ((i : Int) < (n.kids.length : Int)) = True := by simp only [eq_iff_iff, iff_true]; omega
      obtain ⟨k, hk1⟩ : ∃ k, n.kids[i]? = some k := ⟨_, List.getElem?_eq_getElem h⟩
      have hmem : k ∈ n.kids := List.mem_of_getElem? hk1
      have hget := kid_get hk1
      have hle := sum_mem_le (f := nodesN) hmem
      have hts := sum_take_succ nodesN hk1
      have htl := sum_take_le nodesN n.kids (i + 1)
      have H2 := H.new (.cells 25 [.i .u8 0, .s [], .nsl, .nsl])
      generalize hq2 : q'.new (.cells 25 [.i .u8 0, .s [], .nsl, .nsl]) = q2 at H2
      generalize hi2 : q'.nb = j2 at H2
      obtain ⟨q3, e3, H3, _⟩ := H2.stw 0 (v := .agg k.cells) (m := 4) rfl rfl ⟨cells4 k, ones4 k⟩
      have l3 := H3.ldw 0 (m := 4) rfl rfl
      have hc := ih k hmem (by omega) q3 H3.wf
      have hsum : IntKind.i64.wrap (((1 + ((n.kids.take i).map nodesN).sum : Nat) : Int) + ((nodesN k : Nat) : Int)) = ((1 + ((n.kids.take (i + 1)).map nodesN).sum : Nat) : Int) := by
        rw [hts, show ((1 + ((n.kids.take i).map nodesN).sum : Nat) : Int) + ((nodesN k : Nat) : Int) = ((1 + (((n.kids.take i).map nodesN).sum + nodesN k) : Nat) : Int) by omega]
        exact wrap_nat (by omega)
      have hw1 := wrap_succ (show i + 1 < 2 ^ 63 by omega)
      have hld : ldA q' true 4 (.ep k.cells 0 .shut) = some (.agg k.cells) := rfl
      simp only [go_sem, W_cond2, WO_guard3, WE_guard3, WQ_guard3, KB_n, KB_x, Nat.reduceBEq, Nat.reduceAdd, Nat.reduceLT, Nat.reduceLeDiff, Nat.reduceEqDiff, reduceIte, Int.reduceEq, reduceCtorEq, g1, g3, g7, g8, g9, e1, natOf_nat, hget, hld, hq2, hi2, e3, l3, hc, hsum, hw1, pub_cells]
      exact ⟨x - 1, by omega, i + 1, by omega, (H3.sel [] [1] (by simp) (by simp)), rfl, rfl⟩
    · have e1 : ((i : Int) < (n.kids.length : Int)) = False := by simp only [eq_iff_iff, iff_false]; omega
      obtain rfl : i = n.kids.length := by omega
      simp only [go_sem, W_cond2, WO_guard3, WE_guard3, WQ_guard3, KB_n, KB_x, Nat.reduceBEq, Nat.reduceAdd, Nat.reduceLT, Nat.reduceLeDiff, Nat.reduceEqDiff, reduceIte, Int.reduceEq, reduceCtorEq, g1, g3, g7, g8, g9, e1]
      refine KR_some H.over rfl ?_
      rw [hN, List.take_length]; rfl
  · simp only [go_sem, W_cond2, WO_guard3, WE_guard3, WQ_guard3, KB_n, KB_x, Nat.reduceBEq, Nat.reduceAdd, Nat.reduceLT, Nat.reduceLeDiff, Nat.reduceEqDiff, reduceIte, Int.reduceEq, reduceCtorEq]
    exact ⟨0, by omega, H1, by simp⟩
theorem foldr_max_le {α : Type} (f : α → Nat) (B : Nat) : ∀ {l : List α}, (∀ a ∈ l, f a ≤ B) → (l.map f).foldr max 0 ≤ B
  | [], _ => by simp
  | a :: l, h => by
    simp only [List.map_cons, List.foldr_cons]
    have := foldr_max_le f B (l := l) fun x hx => h x (by simp [hx])
    have := h a (by simp)
    omega
theorem max_take {α : Type} (f : α → Nat) {l : List α} {i : Nat} {a : α} (h : l[i]? = some a) : ((l.take (i + 1)).map f).foldr max 0 = max ((l.take i).map f |>.foldr max 0) (f a) := by
  rw [List.take_add_one, h]
  have : ∀ (L : List Nat) (x : Nat), (L ++ [x]).foldr max 0 = max (L.foldr max 0) x := by
    intro L x
    induction L with
    | nil => simp
    | cons b L ih => simp only [List.cons_append, List.foldr_cons, ih]; omega
  simp only [Option.toList_some, List.map_append, List.map_cons, List.map_nil, this]
theorem deep_nodes : ∀ n : ND, deepN n ≤ nodesN n := by
  refine ND.ind fun n ih => ?_
  rw [deepN_eq, nodesN_eq]
  refine foldr_max_le _ _ fun k hk => ?_
  have := ih k hk
  have := sum_mem_le (f := nodesN) hk
  omega
theorem depth_ok : ∀ n : ND, nodesN n < 2 ^ 62 → ∀ s, Wf s → (lim prog).call f_ftree_depth [.agg n.cells] s = some (.i .i64 (deepN n : Nat), s) := by
  refine ND.ind fun n ih hb s hw => ?_
  refine fn_W p_ftree_depth rfl rfl ?_
  have H1 := (Hp.begin hw).new (.cells 25 n.cells)
  generalize hq : s.enter.new (.cells 25 n.cells) = q at H1
  generalize hm : s.enter.nb = m at H1
  have l1 := H1.ld 0 (off := 3) (v := .ws false 4 (n.kids.map ND.av)) rfl rfl
  have hN := nodesN_eq n
  have hk : n.kids.length ≤ (n.kids.map nodesN).sum := by
    generalize n.kids = l
    induction l with
    | nil => simp
    | cons a l il => simp only [List.length_cons, List.map_cons, List.sum_cons]; have := nodesN_eq a; omega
  have hz0 : wkZ c_ftree_depth.cin [.agg n.cells] = [.agg n.cells] := by simp [c_ftree_depth, wkZ, wk, ND.cells]
  rw [hz0]
  simp only [c_ftree_depth, go_sem, W_cond2, WO_guard3, WE_guard3, WQ_guard3, KB_n, KB_x, Nat.reduceBEq, Nat.reduceAdd, Nat.reduceLT, Nat.reduceLeDiff, Nat.reduceEqDiff, reduceIte, Int.reduceEq, reduceCtorEq, cells4, hq, hm, l1, Nat.zero_add]
  refine W_loop (fun x e q => ∃ i : Nat, i + x = n.kids.length ∧ Hp s q s.en [] [(m, .cells 25 n.cells)] ∧ e.get 1 = .p m 0 ∧ e.get 3 = .i .i64 ((((n.kids.take i).map fun k => 1 + deepN k).foldr max 0 : Nat) : Int) ∧ e.get 7 = .ws false 4 (n.kids.map ND.av) ∧ e.get 8 = .i .i64 (n.kids.length : Nat) ∧ e.get 9 = .i .i64 (i : Nat)) ?_ n.kids.length _ _ ?_
  · rintro x e q' ⟨i, hi, H, g1, g3, g7, g8, g9⟩
    by_cases h : i < n.kids.length
    · have e1 : ((i : Int) < (n.kids.length : Int)) = True := by simp only [eq_iff_iff, iff_true]; omega
      obtain ⟨k, hk1⟩ : ∃ k, n.kids[i]? = some k := ⟨_, List.getElem?_eq_getElem h⟩
      have hmem : k ∈ n.kids := List.mem_of_getElem? hk1
      have hget := kid_get hk1
      have hle := sum_mem_le (f := nodesN) hmem
      have hdn := deep_nodes k
      have hmt := max_take (fun k => 1 + deepN k) hk1
      have H2 := H.new (.cells 25 [.i .u8 0, .s [], .nsl, .nsl])
      generalize hq2 : q'.new (.cells 25 [.i .u8 0, .s [], .nsl, .nsl]) = q2 at H2
      generalize hi2 : q'.nb = j2 at H2
      obtain ⟨q3, e3, H3, _⟩ := H2.stw 0 (v := .agg k.cells) (m := 4) rfl rfl ⟨cells4 k, ones4 k⟩
      have l3 := H3.ldw 0 (m := 4) rfl rfl
      have hc := ih k hmem (by omega) q3 H3.wf
      have hsum : IntKind.i64.wrap (1 + ((deepN k : Nat) : Int)) = ((1 + deepN k : Nat) : Int) := by
        rw [show (1 : Int) + ((deepN k : Nat) : Int) = ((1 + deepN k : Nat) : Int) by omega]
        exact wrap_nat (by omega)
      have hmx : (if ((1 + deepN k : Nat) : Int) > ((((n.kids.take i).map fun k => 1 + deepN k).foldr max 0 : Nat) : Int) then ((1 + deepN k : Nat) : Int) else ((((n.kids.take i).map fun k => 1 + deepN k).foldr max 0 : Nat) : Int)) = ((((n.kids.take (i + 1)).map fun k => 1 + deepN k).foldr max 0 : Nat) : Int) := by
        rw [hmt]
        split <;> omega
      have hw1 := wrap_succ (show i + 1 < 2 ^ 63 by omega)
      have hld : ldA q' true 4 (.ep k.cells 0 .shut) = some (.agg k.cells) := rfl
      simp only [go_sem, W_cond2, WO_guard3, WE_guard3, WQ_guard3, KB_n, KB_x, Nat.reduceBEq, Nat.reduceAdd, Nat.reduceLT, Nat.reduceLeDiff, Nat.reduceEqDiff, reduceIte, Int.reduceEq, reduceCtorEq, g1, g3, g7, g8, g9, e1, natOf_nat, hget, hld, hq2, hi2, e3, l3, hc, hsum, hw1, pub_cells, hmx]
      exact ⟨x - 1, by omega, i + 1, by omega, (H3.sel [] [1] (by simp) (by simp)), rfl, rfl⟩
    · have e1 : ((i : Int) < (n.kids.length : Int)) = False := by simp only [eq_iff_iff, iff_false]; omega
      obtain rfl : i = n.kids.length := by omega
      simp only [go_sem, W_cond2, WO_guard3, WE_guard3, WQ_guard3, KB_n, KB_x, Nat.reduceBEq, Nat.reduceAdd, Nat.reduceLT, Nat.reduceLeDiff, Nat.reduceEqDiff, reduceIte, Int.reduceEq, reduceCtorEq, g1, g3, g7, g8, g9, e1]
      refine KR_some H.over rfl ?_
      rw [deepN_eq n, List.take_length]; rfl
  · simp only [go_sem, W_cond2, WO_guard3, WE_guard3, WQ_guard3, KB_n, KB_x, Nat.reduceBEq, Nat.reduceAdd, Nat.reduceLT, Nat.reduceLeDiff, Nat.reduceEqDiff, reduceIte, Int.reduceEq, reduceCtorEq]
    exact ⟨0, by omega, H1, by simp⟩
end Go.Proofs.YtkkfjoiffcmpeaaDoor

/-
  Bytes and runes in texts; names.
-/
set_option maxRecDepth 100000
set_option linter.unusedSimpArgs false
set_option linter.constructorNameAsVariable false
namespace Go.Proofs.YtkkfjoiffcmpeaaDoor
open Go.Proofs.YtkkfjoiffcmpeaaDoor.Am
/-! ### A byte in a text -/
theorem nbeq_ne {a c : Nat} (h : ¬ a = c) : Nat.beq a c = false := Bool.eq_false_iff.2 (by rw [Ne, Nat.beq_eq]; exact h)
theorem idxB_neg {c : Nat} : ∀ {l : List Nat} {n : Nat}, idxB c n l < 0 ↔ c ∉ l
  | [], n => by simp [idxB]
  | a :: l, n => by
    simp only [idxB]
    by_cases h : a = c
    · subst h
      simp [Nat.beq_eq]
    · have hb : Nat.beq a c = false := nbeq_ne h
      rw [hb, cond_false, idxB_neg]
      simp; omega
theorem idxB_miss {c : Nat} : ∀ {l : List Nat} {n : Nat}, c ∉ l → idxB c n l = -1
  | [], n, _ => rfl
  | a :: l, n, h => by
    simp only [List.mem_cons, not_or] at h
    have hb : Nat.beq a c = false := nbeq_ne (Ne.symm h.1)
    simp only [idxB]
    rw [hb, cond_false, idxB_miss h.2]
theorem idxB_app {c : Nat} : ∀ {a b : List Nat} {n : Nat}, c ∉ a → idxB c n (a ++ c :: b) = ((n + a.length : Nat) : Int)
  | [], b, n, _ => by simp [idxB]
  | x :: a, b, n, h => by
    simp only [List.mem_cons, not_or] at h
    have hb : Nat.beq x c = false := nbeq_ne (Ne.symm h.1)
    simp only [List.cons_append, idxB]
    rw [hb, cond_false, idxB_app h.2]
    simp; omega
theorem ext0 (s : St) (l : List Nat) (c : Nat) (hc : c < 256) : extA s 0 [.s l, .i .u8 (c : Int)] = some (.i .i64 (idxB c 0 l), s) := by
  have h : ((IntKind.u8 = IntKind.u8) ∧ (0 : Int) ≤ (c : Int) ∧ (c : Int) < 256) := ⟨rfl, by omega, by omega⟩
  show (if _ then _ else _) = _
  rw [if_pos h]
  simp
theorem indexByteL_ok (l : List Nat) (c : Nat) (hc : c < 256) (s : St) : (lim prog).call f_internal_stringslite_IndexByte [.s l, .i .u8 (c : Int)] s = some (.i .i64 (idxB c 0 l), s) := by
  refine fn_W p_internal_stringslite_IndexByte rfl rfl ?_
  simp only [c_internal_stringslite_IndexByte, go_sem, W_cond, WO_guard2, WE_guard2, WQ_guard2, W_regD, KB_n, KB_x, Nat.reduceBEq, Nat.reduceAdd, Nat.reduceLT, Nat.reduceLeDiff, Nat.reduceEqDiff, reduceIte, Int.reduceEq, reduceCtorEq, ext0 _ l c hc]
  exact KR_some (Over.enter s) rfl rfl
theorem indexByte_ok (l : List Nat) (c : Nat) (hc : c < 256) (s : St) : (lim prog).call f_strings_IndexByte [.s l, .i .u8 (c : Int)] s = some (.i .i64 (idxB c 0 l), s) := by
  refine fn_W p_strings_IndexByte rfl rfl ?_
  simp only [c_strings_IndexByte, go_sem, W_cond, WO_guard2, WE_guard2, WQ_guard2, W_regD, KB_n, KB_x, Nat.reduceBEq, Nat.reduceAdd, Nat.reduceLT, Nat.reduceLeDiff, Nat.reduceEqDiff, reduceIte, Int.reduceEq, reduceCtorEq, indexByteL_ok l c hc]
  exact KR_some (Over.enter s) rfl rfl
theorem natOf0 : natOf (.i .i64 0) = some 0 := rfl
theorem indexL_ok (l : List Nat) (c : Nat) (hc : c < 256) (s : St) : (lim prog).call f_internal_stringslite_Index [.s l, .s [c]] s = some (.i .i64 (idxB c 0 l), s) := by
  refine fn_W p_internal_stringslite_Index rfl rfl ?_
  have h1 : (((List.length [c] : Nat) : Int) = 0) = False := by simp
  have h2 : (((List.length [c] : Nat) : Int) = 1) = True := by simp
  simp only [c_internal_stringslite_Index, go_sem, W_cond, WO_guard2, WE_guard2, WQ_guard2, W_regD, KB_n, KB_x, Nat.reduceBEq, Nat.reduceAdd, Nat.reduceLT, Nat.reduceLeDiff, Nat.reduceEqDiff, reduceIte, Int.reduceEq, reduceCtorEq, ofNat_len, h1, natOf0, h2]
  have hk : KR s [CT.id] (.i .i64 (idxB c 0 l)) (some ([.i .i64 (idxB c 0 l)], s.enter)) := KR_some (Over.enter s) rfl rfl
  by_cases hl : [c] = l
  · subst hl
    simp only [go_sem, W_cond, WO_guard2, WE_guard2, WQ_guard2, W_regD, KB_n, KB_x, Nat.reduceBEq, Nat.reduceAdd, Nat.reduceLT, Nat.reduceLeDiff, Nat.reduceEqDiff, reduceIte, Int.reduceEq, reduceCtorEq, ofNat_len, h1, natOf0, h2, eq_self, indexByteL_ok _ c hc]
    exact KR_some (Over.enter s) rfl (by simp [tupOf, wkZ, wk, idxB])
  · have hl' : ([c] = l) = False := by simp [hl]
    simp only [go_sem, W_cond, WO_guard2, WE_guard2, WQ_guard2, W_regD, KB_n, KB_x, Nat.reduceBEq, Nat.reduceAdd, Nat.reduceLT, Nat.reduceLeDiff, Nat.reduceEqDiff, reduceIte, Int.reduceEq, reduceCtorEq, ofNat_len, h1, natOf0, h2, hl', indexByteL_ok _ c hc]
    exact hk
theorem index_ok (l : List Nat) (c : Nat) (hc : c < 256) (s : St) : (lim prog).call f_strings_Index [.s l, .s [c]] s = some (.i .i64 (idxB c 0 l), s) := by
  refine fn_W p_strings_Index rfl rfl ?_
  simp only [c_strings_Index, go_sem, W_cond, WO_guard2, WE_guard2, WQ_guard2, W_regD, KB_n, KB_x, Nat.reduceBEq, Nat.reduceAdd, Nat.reduceLT, Nat.reduceLeDiff, Nat.reduceEqDiff, reduceIte, Int.reduceEq, reduceCtorEq, indexL_ok l c hc]
  exact KR_some (Over.enter s) rfl rfl
end Go.Proofs.YtkkfjoiffcmpeaaDoor

/-
  Runes in "/\0\n".
-/
set_option maxRecDepth 100000
set_option linter.unusedSimpArgs false
set_option linter.constructorNameAsVariable false
namespace Go.Proofs.YtkkfjoiffcmpeaaDoor
open Go.Proofs.YtkkfjoiffcmpeaaDoor.Am
theorem u8N {n : Nat} (h : n < 256) : (UInt8.ofNat n).toNat = n := by simp [UInt8.toNat_ofNat']; omega
theorem encN_high {r : Int} (h0 : 128 ≤ r) (hv : Utf8.valid r = true) : (∃ a b, encN r = [a, b] ∧ 128 ≤ b ∧ b < 256) ∨ (∃ a b c, encN r = [a, b, c] ∧ 128 ≤ c ∧ c < 256) ∨ ∃ a b c d, encN r = [a, b, c, d] := by
  have hr : r ≤ 1114111 := by
    simp only [Utf8.valid, Bool.or_eq_true, Bool.and_eq_true, decide_eq_true_eq] at hv
    omega
  obtain ⟨n, rfl⟩ : ∃ n : Nat, r = n := ⟨r.toNat, by omega⟩
  simp only [encN, Utf8.encode, hv, if_true, Int.toNat_natCast]
  by_cases h1 : n < 128
  · omega
  rw [if_neg h1]
  by_cases h2 : n < 2048
  · rw [if_pos h2]
    exact .inl ⟨_, _, rfl, by show 128 ≤ (UInt8.ofNat _).toNat; rw [u8N (by omega)]; omega, by show (UInt8.ofNat _).toNat < 256; rw [u8N (by omega)]; omega⟩
  rw [if_neg h2]
  by_cases h3 : n < 65536
  · rw [if_pos h3]
    exact .inr (.inl ⟨_, _, _, rfl, by show 128 ≤ (UInt8.ofNat _).toNat; rw [u8N (by omega)]; omega, by show (UInt8.ofNat _).toNat < 256; rw [u8N (by omega)]; omega⟩)
  rw [if_neg h3]
  exact .inr (.inr ⟨_, _, _, _, rfl⟩)
theorem validRune_ok (r : Int) (s : St) : (lim prog).call f_unicode_utf8_ValidRune [.i .i32 r] s = some (.b (Utf8.valid r), s) := by
  refine fn_W p_unicode_utf8_ValidRune rfl rfl ?_
  simp only [c_unicode_utf8_ValidRune, go_sem, W_cond, WO_guard2, WE_guard2, WQ_guard2, W_regD, KB_n, KB_x, Nat.reduceBEq, Nat.reduceAdd, Nat.reduceLT, Nat.reduceLeDiff, Nat.reduceEqDiff, reduceIte, Int.reduceEq, reduceCtorEq]
  by_cases h0 : 0 ≤ r
  · by_cases h1 : r < 55296
    · simp only [go_sem, W_cond, WO_guard2, WE_guard2, WQ_guard2, W_regD, KB_n, KB_x, Nat.reduceBEq, Nat.reduceAdd, Nat.reduceLT, Nat.reduceLeDiff, Nat.reduceEqDiff, reduceIte, Int.reduceEq, reduceCtorEq, h0, h1]
      exact KR_some (Over.enter s) rfl (by simp [tupOf, wkZ, wk, Utf8.valid, h0, h1])
    · by_cases h2 : 57343 < r
      · by_cases h3 : r ≤ 1114111
        · simp only [go_sem, W_cond, WO_guard2, WE_guard2, WQ_guard2, W_regD, KB_n, KB_x, Nat.reduceBEq, Nat.reduceAdd, Nat.reduceLT, Nat.reduceLeDiff, Nat.reduceEqDiff, reduceIte, Int.reduceEq, reduceCtorEq, h0, h1, h2, h3]
          refine KR_some (Over.enter s) rfl ?_
          have h4 : 57344 ≤ r := by omega
          simp [tupOf, wkZ, wk, Utf8.valid, h3, h4]
        · simp only [go_sem, W_cond, WO_guard2, WE_guard2, WQ_guard2, W_regD, KB_n, KB_x, Nat.reduceBEq, Nat.reduceAdd, Nat.reduceLT, Nat.reduceLeDiff, Nat.reduceEqDiff, reduceIte, Int.reduceEq, reduceCtorEq, h0, h1, h2, h3]
          refine KR_some (Over.enter s) rfl ?_
          simp [tupOf, wkZ, wk, Utf8.valid, h1, h3]
      · simp only [go_sem, W_cond, WO_guard2, WE_guard2, WQ_guard2, W_regD, KB_n, KB_x, Nat.reduceBEq, Nat.reduceAdd, Nat.reduceLT, Nat.reduceLeDiff, Nat.reduceEqDiff, reduceIte, Int.reduceEq, reduceCtorEq, h0, h1, h2]
        refine KR_some (Over.enter s) rfl ?_
        have h4 : ¬ 57344 ≤ r := by omega
        simp [tupOf, wkZ, wk, Utf8.valid, h1, h4]
  · have h2 : ¬ 57343 < r := by omega
    simp only [go_sem, W_cond, WO_guard2, WE_guard2, WQ_guard2, W_regD, KB_n, KB_x, Nat.reduceBEq, Nat.reduceAdd, Nat.reduceLT, Nat.reduceLeDiff, Nat.reduceEqDiff, reduceIte, Int.reduceEq, reduceCtorEq, h0, h2]
    refine KR_some (Over.enter s) rfl ?_
    have h4 : ¬ 57344 ≤ r := by omega
    simp [tupOf, wkZ, wk, Utf8.valid, h0, h4]
abbrev K3 : List Nat := [47, 0, 10]
def runeP (r : Int) : Int := if r < 128 then idxB r.toNat 0 K3 else -1
theorem natOf_i64 (i : Nat) : natOf (.i .i64 (i : Int)) = some i := natOf_nat _ i
theorem natOf1 : natOf (.i .i64 1) = some 1 := rfl
theorem natOf2 : natOf (.i .i64 2) = some 2 := rfl
theorem w1 : IntKind.i64.wrap (2 - 1) = 1 := rfl
theorem w2 : IntKind.i64.wrap (3 - 1) = 2 := rfl
theorem w3 : IntKind.i64.wrap (4 - 1) = 3 := rfl
theorem w4 : IntKind.i64.wrap (1 + 1) = 2 := rfl
theorem w5 : IntKind.i64.wrap (2 + 1) = 3 := rfl
theorem bnd2 : bounds 3 (some (.i .i64 2)) none = some (2, 3) := rfl
theorem bnd3 : bounds 3 (some (.i .i64 3)) none = some (3, 3) := rfl
theorem indexRune_ok (r : Int) (h0 : 0 ≤ r) (h1 : r ≤ 2147483647) (s : St) : (lim prog).call f_strings_IndexRune [.s K3, .i .i32 r] s = some (.i .i64 (runeP r), s) := by
  refine fn_W p_strings_IndexRune rfl rfl ?_
  have h0' : ((0 : Int) ≤ r) = True := by simp [h0]
  by_cases hr : r < 128
  · have hr' : (r < 128) = True := by simp [hr]
    obtain ⟨n, rfl⟩ : ∃ n : Nat, r = n := ⟨r.toNat, by omega⟩
    have hw : IntKind.u8.wrap (n : Int) = (n : Int) := by
      have e : (n : Int) % 2 ^ 8 = n := by omega
      simp only [IntKind.wrap, IntKind.signed, IntKind.bits, e]
      rfl
    simp only [c_strings_IndexRune, go_sem, W_cond, WO_guard2, WE_guard2, WQ_guard2, W_regD, KB_n, KB_x, Nat.reduceBEq, Nat.reduceAdd, Nat.reduceLT, Nat.reduceLeDiff, Nat.reduceEqDiff, reduceIte, Int.reduceEq, reduceCtorEq, h0', hr', hw, indexByte_ok K3 n (by omega)]
    exact KR_some (Over.enter s) rfl (by simp [tupOf, wkZ, wk, runeP, hr])
  · have hr' : (r < 128) = False := by simp [hr]
    have hP : runeP r = -1 := by unfold runeP; rw [if_neg hr]
    by_cases he : r = 65533
    · have he' : (r = 65533) = True := by simp [he]
      simp only [c_strings_IndexRune, go_sem, W_cond, WO_guard2, WE_guard2, WQ_guard2, W_regD, KB_n, KB_x, Nat.reduceBEq, Nat.reduceAdd, Nat.reduceLT, Nat.reduceLeDiff, Nat.reduceEqDiff, reduceIte, Int.reduceEq, reduceCtorEq, h0', hr', he']
      refine W_loop (fun n e q => ∃ p : Nat, p + n = 3 ∧ q = s.enter.new (.siter K3 p) ∧ e.get 175 = .p s.enter.nb 0) ?_ 3 _ _ ?_
      · rintro n e q ⟨p, hp, rfl, g⟩
        have hs : ∀ p', (s.enter.new (.siter K3 p)).setBox s.enter.nb (.siter K3 p') = s.enter.new (.siter K3 p') := fun p' => new_set _ _ _
        have h47 : ((Int.ofNat 47 : Int) = 65533) = False := by simp
        have h00 : ((Int.ofNat 0 : Int) = 65533) = False := by simp
        have h10 : ((Int.ofNat 10 : Int) = 65533) = False := by simp
        have l3 : ([47, 0, 10] : List Nat)[3]? = none := rfl
        have a1 : (47 < 128) = True := by simp
        have a2 : (0 < 128) = True := by simp
        have a3 : (10 < 128) = True := by simp
        have hov := ((Over.enter s).new (.siter K3 3))
        have : p = 0 ∨ p = 1 ∨ p = 2 ∨ p = 3 := by omega
        rcases this with rfl | rfl | rfl | rfl
        · simp only [go_sem, W_cond, WO_guard2, WE_guard2, WQ_guard2, W_regD, KB_n, KB_x, Nat.reduceBEq, Nat.reduceAdd, Nat.reduceLT, Nat.reduceLeDiff, Nat.reduceEqDiff, reduceIte, Int.reduceEq, reduceCtorEq, g, a1, a2, a3, h47, h00, h10, hs]
          exact ⟨n - 1, by omega, 1, by omega, rfl⟩
        · simp only [go_sem, W_cond, WO_guard2, WE_guard2, WQ_guard2, W_regD, KB_n, KB_x, Nat.reduceBEq, Nat.reduceAdd, Nat.reduceLT, Nat.reduceLeDiff, Nat.reduceEqDiff, reduceIte, Int.reduceEq, reduceCtorEq, g, a1, a2, a3, h47, h00, h10, hs]
          exact ⟨n - 1, by omega, 2, by omega, rfl⟩
        · simp only [go_sem, W_cond, WO_guard2, WE_guard2, WQ_guard2, W_regD, KB_n, KB_x, Nat.reduceBEq, Nat.reduceAdd, Nat.reduceLT, Nat.reduceLeDiff, Nat.reduceEqDiff, reduceIte, Int.reduceEq, reduceCtorEq, g, a1, a2, a3, h47, h00, h10, hs]
          exact ⟨n - 1, by omega, 3, by omega, rfl⟩
        · simp only [go_sem, W_cond, WO_guard2, WE_guard2, WQ_guard2, W_regD, KB_n, KB_x, Nat.reduceBEq, Nat.reduceAdd, Nat.reduceLT, Nat.reduceLeDiff, Nat.reduceEqDiff, reduceIte, Int.reduceEq, reduceCtorEq, g, l3]
          exact KR_some hov rfl (by rw [hP]; rfl)
      · simp only [go_sem, W_cond, WO_guard2, WE_guard2, WQ_guard2, W_regD, KB_n, KB_x, Nat.reduceBEq, Nat.reduceAdd, Nat.reduceLT, Nat.reduceLeDiff, Nat.reduceEqDiff, reduceIte, Int.reduceEq, reduceCtorEq]
        exact ⟨0, by omega, rfl⟩
    · have he' : (r = 65533) = False := by simp [he]
      have hv := validRune_ok r
      cases hvr : Utf8.valid r with
      | false =>
        rw [hvr] at hv
        simp only [c_strings_IndexRune, go_sem, W_cond, WO_guard2, WE_guard2, WQ_guard2, W_regD, KB_n, KB_x, Nat.reduceBEq, Nat.reduceAdd, Nat.reduceLT, Nat.reduceLeDiff, Nat.reduceEqDiff, reduceIte, Int.reduceEq, reduceCtorEq, h0', hr', he', hv]
        exact KR_some (Over.enter s) rfl (by rw [hP]; rfl)
      | true =>
        rw [hvr] at hv
        have hl3 : List.length K3 = 3 := rfl
        rcases encN_high (show 128 ≤ r by omega) hvr with ⟨a, b, h2, hb1, hb2⟩ | ⟨a, b, c, h2, hb1, hb2⟩ | ⟨a, b, c, d, h2⟩
        · simp only [c_strings_IndexRune, go_sem, W_cond, WO_guard2, WE_guard2, WQ_guard2, W_regD, KB_n, KB_x, Nat.reduceBEq, Nat.reduceAdd, Nat.reduceLT, Nat.reduceLeDiff, Nat.reduceEqDiff, reduceIte, Int.reduceEq, reduceCtorEq, h0', hr', he', hv, h2]
          refine W_loop (fun n e q => q = s.enter ∧ e.get 0 = .s K3 ∧ e.get 7 = .s [a, b] ∧ e.get 8 = .i .i64 1 ∧ e.get 9 = .i .i64 1) ?_ 0 _ _ ?_
          · rintro n e q ⟨rfl, g0, g7, g8, g9⟩
            have c1 : ((1 : Int) < 3) = True := by simp
            have c2 : ((0 : Int) ≠ (b : Int)) = True := by simp; omega
            have hix := indexByte_ok [10] b hb2 s.enter
            have hmiss : idxB b 0 [10] = -1 := idxB_miss (by simp; omega)
            rw [hmiss] at hix
            have hd : ((([47, 0, 10] : List Nat).drop 2).take (3 - 2)) = [10] := rfl
            have hm1 : ((-1 : Int) < 0) = True := by simp
            simp only [go_sem, W_cond, WO_guard2, WE_guard2, WQ_guard2, W_regD, KB_n, KB_x, Nat.reduceBEq, Nat.reduceAdd, Nat.reduceLT, Nat.reduceLeDiff, Nat.reduceEqDiff, reduceIte, Int.reduceEq, reduceCtorEq, g0, g7, g8, g9, List.length_cons, List.length_nil, ofNat_len, Int.cast_ofNat_Int, c1, natOf1, c2, w4, bnd2, hd, hix, hm1]
            exact KR_some (Over.enter s) rfl (by rw [hP]; rfl)
          · simp only [go_sem, W_cond, WO_guard2, WE_guard2, WQ_guard2, W_regD, KB_n, KB_x, Nat.reduceBEq, Nat.reduceAdd, Nat.reduceLT, Nat.reduceLeDiff, Nat.reduceEqDiff, reduceIte, Int.reduceEq, reduceCtorEq, w1, List.length_cons, List.length_nil, ofNat_len, Int.cast_ofNat_Int, and_self]
        · simp only [c_strings_IndexRune, go_sem, W_cond, WO_guard2, WE_guard2, WQ_guard2, W_regD, KB_n, KB_x, Nat.reduceBEq, Nat.reduceAdd, Nat.reduceLT, Nat.reduceLeDiff, Nat.reduceEqDiff, reduceIte, Int.reduceEq, reduceCtorEq, h0', hr', he', hv, h2]
          refine W_loop (fun n e q => q = s.enter ∧ e.get 0 = .s K3 ∧ e.get 7 = .s [a, b, c] ∧ e.get 8 = .i .i64 2 ∧ e.get 9 = .i .i64 2) ?_ 0 _ _ ?_
          · rintro n e q ⟨rfl, g0, g7, g8, g9⟩
            have c1 : ((2 : Int) < 3) = True := by simp
            have c2 : ((10 : Int) ≠ (c : Int)) = True := by simp; omega
            have hix := indexByte_ok [] c hb2 s.enter
            have hmiss : idxB c 0 [] = -1 := rfl
            rw [hmiss] at hix
            have hd : ((([47, 0, 10] : List Nat).drop 3).take (3 - 3)) = [] := rfl
            have hm1 : ((-1 : Int) < 0) = True := by simp
            simp only [go_sem, W_cond, WO_guard2, WE_guard2, WQ_guard2, W_regD, KB_n, KB_x, Nat.reduceBEq, Nat.reduceAdd, Nat.reduceLT, Nat.reduceLeDiff, Nat.reduceEqDiff, reduceIte, Int.reduceEq, reduceCtorEq, g0, g7, g8, g9, List.length_cons, List.length_nil, ofNat_len, Int.cast_ofNat_Int, c1, natOf2, c2, w5, bnd3, hd, hix, hm1]
            exact KR_some (Over.enter s) rfl (by rw [hP]; rfl)
          · simp only [go_sem, W_cond, WO_guard2, WE_guard2, WQ_guard2, W_regD, KB_n, KB_x, Nat.reduceBEq, Nat.reduceAdd, Nat.reduceLT, Nat.reduceLeDiff, Nat.reduceEqDiff, reduceIte, Int.reduceEq, reduceCtorEq, w2, List.length_cons, List.length_nil, ofNat_len, Int.cast_ofNat_Int, and_self]
        · simp only [c_strings_IndexRune, go_sem, W_cond, WO_guard2, WE_guard2, WQ_guard2, W_regD, KB_n, KB_x, Nat.reduceBEq, Nat.reduceAdd, Nat.reduceLT, Nat.reduceLeDiff, Nat.reduceEqDiff, reduceIte, Int.reduceEq, reduceCtorEq, h0', hr', he', hv, h2]
          refine W_loop (fun n e q => q = s.enter ∧ e.get 0 = .s K3 ∧ e.get 9 = .i .i64 3) ?_ 0 _ _ ?_
          · rintro n e q ⟨rfl, g0, g9⟩
            have c1 : ((3 : Int) < 3) = False := by simp
            simp only [go_sem, W_cond, WO_guard2, WE_guard2, WQ_guard2, W_regD, KB_n, KB_x, Nat.reduceBEq, Nat.reduceAdd, Nat.reduceLT, Nat.reduceLeDiff, Nat.reduceEqDiff, reduceIte, Int.reduceEq, reduceCtorEq, g0, g9, List.length_cons, List.length_nil, ofNat_len, Int.cast_ofNat_Int, c1]
            exact KR_some (Over.enter s) rfl (by rw [hP]; rfl)
          · simp only [go_sem, W_cond, WO_guard2, WE_guard2, WQ_guard2, W_regD, KB_n, KB_x, Nat.reduceBEq, Nat.reduceAdd, Nat.reduceLT, Nat.reduceLeDiff, Nat.reduceEqDiff, reduceIte, Int.reduceEq, reduceCtorEq, w3, List.length_cons, List.length_nil, ofNat_len, Int.cast_ofNat_Int, and_self]
end Go.Proofs.YtkkfjoiffcmpeaaDoor

/-
  Sets of bytes; names.
-/
set_option maxRecDepth 100000
set_option linter.unusedSimpArgs false
set_option linter.constructorNameAsVariable false
namespace Go.Proofs.YtkkfjoiffcmpeaaDoor
open Go.Proofs.YtkkfjoiffcmpeaaDoor.Am
abbrev bs (B : List Bool) : List AV := B.map AV.b
section
variable {s : St} {id T n : Nat}
theorem bs_pubL (s : St) : ∀ B : List Bool, pubL s (bs B) = some (bs B, s)
  | [] => rfl
  | b :: B => by
    simp only [bs, List.map_cons, pubL, pubC_b]
    rw [bs_pubL s B]
theorem bs_frzL (s : St) : ∀ B : List Bool, frzL s (bs B) = some (bs B, s)
  | [] => rfl
  | b :: B => by
    simp only [bs, List.map_cons, frzL, frz, pubC_b]
    rw [bs_frzL s B]
theorem bs_ones : ∀ B : List Bool, ones (bs B) = true
  | [] => rfl
  | b :: B => by
    simp only [bs, List.map_cons, ones]
    exact bs_ones B
theorem bs_refs : ∀ B : List Bool, AV.refs.go (bs B) = false
  | [] => rfl
  | b :: B => by
    simp only [bs, List.map_cons, AV.refs.go, AV.refs, Bool.false_or]
    exact bs_refs B
theorem bs_wk : ∀ (n : Nat) (B : List Bool), wkZ (List.replicate n .id) (bs B) = bs B
  | 0, B => by simp [wkZ]
  | n + 1, [] => by simp [wkZ]
  | n + 1, b :: B => by
    have := bs_wk n B
    simp only [bs, List.map_cons, List.replicate_succ, wkZ, wk] at this ⊢
    rw [this]
theorem bs_ld {B : List Bool} (h : s.box? id = some (.cells T (bs B))) (hn : B.length = n) : ldA s true n (.p id 0) = some (.agg (bs B)) := by
  have : cut (bs B) 0 n = some (bs B) := by
    have e : (bs B).take n = bs B := List.take_of_length_le (by simp; omega)
    have e2 : (bs B).length = n := by simpa using hn
    simp only [cut, List.drop_zero, e, e2, if_true]
  simp only [ldA, St.cells?, h, this, scal]
theorem bs_ld1 {B : List Bool} {i : Nat} {b : Bool} (h : s.box? id = some (.cells T (bs B))) (hi : B[i]? = some b) : ldA s false 1 (.p id i) = some (.b b) := by
  exact ld_box h (by simp [hi])
theorem bs_st {B B' : List Bool} (h : s.box? id = some (.cells T (bs B'))) (hn : B.length = n) (hn' : B'.length = n) : stA s n (.p id 0) (.agg (bs B)) = some (s.setBox id (.cells T (bs B))) := by
  have h1 : (AV.agg (bs B)).cells = bs B := rfl
  have h2 : (bs B).length = n := by simpa using hn
  have h3 : over (bs B') 0 (bs B) = some (bs B) := by
    unfold over
    rw [if_pos (by simp; omega)]
    simp [hn, hn']
  simp only [stA, h, h1, h2, bs_ones, and_self, if_true, h3, esc]
  have h4 : (AV.agg (bs B)).refs = false := by simp only [AV.refs]; exact bs_refs B
  rw [h4]
  rfl
theorem bs_st1 {B : List Bool} {i : Nat} (h : s.box? id = some (.cells T (bs B))) (hi : i < B.length) : stA s 1 (.p id i) (.b true) = some (s.setBox id (.cells T (bs (B.set i true)))) := by
  rw [st_box h rfl rfl (by simpa using hi)]
  have : (bs B).set i (.b true) = bs (B.set i true) := by simp [bs, List.map_set]
  rw [this]
  rfl
end
def F256 : List Bool := List.replicate 256 false
abbrev Z256 : List AV := bs F256
def B3 : List Bool := ((F256.set 47 true).set 0 true).set 10 true
theorem len0 : F256.length = 256 := by simp [F256]
theorem len1' : (F256.set 47 true).length = 256 := by simp [F256]
theorem len2' : ((F256.set 47 true).set 0 true).length = 256 := by simp [F256]
theorem len3' : B3.length = 256 := by simp [B3, F256]
theorem b3_all : ((List.range 256).all fun c => B3[c]? == some (decide (c ∈ K3))) = true := by kernel_rfl
theorem b3_get {c : Nat} (h : c < 256) : B3[c]? = some (decide (c ∈ K3)) := by
  have := List.all_eq_true.1 b3_all c (by simpa using h)
  simpa using this
theorem mk_body : c_strings_makeASCIISet.body =
  (.seq (.reg [⟨(some 2), .alloc 104 Z256, none⟩,
    ⟨(some 3), .mv (.c (.b false)), none⟩])
  (.seq (.seq (.reg [⟨(some 4), .mv (.c (.i .i64 0)), none⟩])
  (.blk 0 (.loop (.seq (.seq (.reg [⟨(some 6), .mv (.t 4), none⟩,
      ⟨(some 7), .mv (.t 0), none⟩,
      ⟨(some 8), .len 0 (.t 7), none⟩,
      ⟨(some 9), .bin .lss (.t 6) (.t 8), none⟩])
    (.cond (.t 9)
     .skip
     (.exit 0)))
    (.seq (.blk 1 (.seq (.reg [⟨(some 12), .mv (.t 0), none⟩,
       ⟨(some 13), .mv (.t 4), none⟩,
       ⟨(some 14), .ixS (.t 12) (.t 13), none⟩,
       ⟨(some 5), .mv (.t 14), none⟩])
     (.seq (.seq (.reg [⟨(some 15), .mv (.t 5), none⟩,
       ⟨(some 16), .bin .geq (.t 15) (.c (.i .u8 128)), none⟩])
     (.cond (.t 16)
      (.seq (.reg [⟨(some 17), .ld true 256 (.t 2), none⟩,
        ⟨none, .st 256 (.t 2) (.t 17), none⟩,
        ⟨(some 3), .mv (.c (.b false)), none⟩])
      .ret)
      .skip))
     (.reg [⟨(some 18), .mv (.t 5), none⟩,
       ⟨(some 19), .iaA 256 1 (.t 2) (.t 18), none⟩,
       ⟨none, .st 1 (.t 19) (.c (.b true)), none⟩]))))
    (.reg [⟨(some 10), .mv (.t 4), none⟩,
      ⟨(some 11), .bin .add (.t 10) (.c (.i .i64 1)), none⟩,
      ⟨(some 4), .mv (.t 11), none⟩]))))))
  (.seq (.reg [⟨(some 20), .ld true 256 (.t 2), none⟩,
    ⟨none, .st 256 (.t 2) (.t 20), none⟩,
    ⟨(some 3), .mv (.c (.b true)), none⟩])
  .ret))) := by rfl
theorem ia_body : c_strings_IndexAny.body =
  (.seq (.reg [⟨(some 4), .mv (.c (.i .i64 0)), none⟩])
  (.seq (.seq (.reg [⟨(some 11), .mv (.t 1), none⟩,
    ⟨(some 12), .bin .eql (.t 11) (.c (.s [])), none⟩])
  (.cond (.t 12)
   (.seq (.reg [⟨(some 4), .mv (.c (.i .i64 (-1))), none⟩])
   .ret)
   .skip))
  (.seq (.seq (.reg [⟨(some 13), .mv (.t 1), none⟩,
    ⟨(some 14), .len 0 (.t 13), none⟩,
    ⟨(some 15), .bin .eql (.t 14) (.c (.i .i64 1)), none⟩])
  (.cond (.t 15)
   (.seq (.reg [⟨(some 16), .mv (.t 1), none⟩,
     ⟨(some 17), .ixS (.t 16) (.c (.i .i64 0)), none⟩,
     ⟨(some 18), .cvI .i32 (.t 17), none⟩,
     ⟨(some 5), .mv (.t 18), none⟩])
   (.seq (.seq (.reg [⟨(some 19), .mv (.t 5), none⟩,
     ⟨(some 20), .bin .geq (.t 19) (.c (.i .i32 128)), none⟩])
   (.cond (.t 20)
    (.reg [⟨(some 5), .mv (.c (.i .i32 65533)), none⟩])
    .skip))
   (.seq (.reg [⟨(some 21), .mv (.t 0), none⟩,
     ⟨(some 22), .mv (.t 5), none⟩,
     ⟨(some 23), .call f_strings_IndexRune [(.t 21), (.t 22)], none⟩,
     ⟨(some 4), .mv (.t 23), none⟩])
   .ret)))
   .skip))
  (.seq (.seq (.reg [⟨(some 24), .mv (.t 0), none⟩,
    ⟨(some 25), .len 0 (.t 24), none⟩,
    ⟨(some 26), .call f_strings_shouldUseASCIISet [(.t 25)], none⟩])
  (.cond (.t 26)
   (.seq (.reg [⟨(some 28), .mv (.t 1), none⟩,
     ⟨(some 29), .call f_strings_makeASCIISet [(.t 28)], none⟩,
     ⟨(some 27), .mv (.t 29), none⟩,
     ⟨(some 30), .ext (.t 27) 0, none⟩,
     ⟨(some 31), .ext (.t 27) 1, none⟩,
     ⟨(some 6), .alloc 104 Z256, none⟩,
     ⟨none, .st 256 (.t 6) (.t 30), none⟩,
     ⟨(some 7), .mv (.t 31), none⟩])
   (.seq (.reg [⟨(some 32), .mv (.t 7), none⟩])
   (.cond (.t 32)
    (.seq (.seq (.reg [⟨(some 8), .mv (.c (.i .i64 0)), none⟩])
    (.blk 0 (.loop (.seq (.seq (.reg [⟨(some 33), .mv (.t 8), none⟩,
        ⟨(some 34), .mv (.t 0), none⟩,
        ⟨(some 35), .len 0 (.t 34), none⟩,
        ⟨(some 36), .bin .lss (.t 33) (.t 35), none⟩])
      (.cond (.t 36)
       .skip
       (.exit 0)))
      (.seq (.blk 1 (.seq (.reg [⟨(some 39), .mv (.t 0), none⟩,
         ⟨(some 40), .mv (.t 8), none⟩,
         ⟨(some 41), .ixS (.t 39) (.t 40), none⟩,
         ⟨(some 42), .call f_strings_asciiSet_contains [(.t 6), (.t 41)], none⟩])
       (.cond (.t 42)
        (.seq (.reg [⟨(some 43), .mv (.t 8), none⟩,
          ⟨(some 4), .mv (.t 43), none⟩])
        .ret)
        .skip)))
      (.reg [⟨(some 37), .mv (.t 8), none⟩,
        ⟨(some 38), .bin .add (.t 37) (.c (.i .i64 1)), none⟩,
        ⟨(some 8), .mv (.t 38), none⟩]))))))
    (.seq (.reg [⟨(some 4), .mv (.c (.i .i64 (-1))), none⟩])
    .ret))
    .skip)))
   .skip))
  (.seq (.seq (.reg [⟨(some 44), .mv (.t 0), none⟩,
    ⟨(some 45), .siter (.t 44), none⟩])
  (.blk 2 (.loop (.seq (.reg [⟨(some 46), .snext (.t 45), none⟩,
      ⟨(some 47), .ext (.t 46) 0, none⟩])
    (.seq (.cond (.t 47)
     .skip
     (.exit 2))
    (.blk 3 (.seq (.reg [⟨(some 48), .ext (.t 46) 1, none⟩,
       ⟨(some 49), .ext (.t 46) 2, none⟩,
       ⟨(some 9), .mv (.t 48), none⟩,
       ⟨(some 10), .mv (.t 49), none⟩])
     (.seq (.reg [⟨(some 50), .mv (.t 1), none⟩,
       ⟨(some 51), .mv (.t 10), none⟩,
       ⟨(some 52), .call f_strings_IndexRune [(.t 50), (.t 51)], none⟩,
       ⟨(some 53), .bin .geq (.t 52) (.c (.i .i64 0)), none⟩])
     (.cond (.t 53)
      (.seq (.reg [⟨(some 54), .mv (.t 9), none⟩,
        ⟨(some 4), .mv (.t 54), none⟩])
      .ret)
      .skip)))))))))
  (.seq (.reg [⟨(some 4), .mv (.c (.i .i64 (-1))), none⟩])
  .ret)))))) := by rfl
theorem mk_cout : c_strings_makeASCIISet.cout = [.agg (List.replicate 256 .id), .id] := by rfl
theorem natOf_u8 (n : Nat) : natOf (.i .u8 (n : Int)) = some n := natOf_nat _ n
theorem mk_ok (s : St) (hw : Wf s) : (lim prog).call f_strings_makeASCIISet [.s K3] s = some (.tup [.agg (bs B3), .b true], s) := by
  refine fn_W p_strings_makeASCIISet rfl rfl ?_
  rw [mk_body, mk_cout]
  have hnb : s.enter.nb = s.nb := rfl
  have hwx : ∀ B, Wf (s.enter.new (.cells 104 (bs B))) := fun B => hw.enter.new _
  have hset : ∀ B B', (s.enter.new (.cells 104 (bs B))).setBox s.nb (.cells 104 (bs B')) = s.enter.new (.cells 104 (bs B')) := fun B B' => new_set s.enter _ _
  have hb : ∀ B, (s.enter.new (.cells 104 (bs B))).box? s.nb = some (.cells 104 (bs B)) := fun B => new_box_self s.enter _
  have s1 := bs_st1 (i := 47) (hb F256) (by rw [len0]; decide)
  have s2 := bs_st1 (i := 0) (hb (F256.set 47 true)) (by rw [len1']; decide)
  have s3 := bs_st1 (i := 10) (hb ((F256.set 47 true).set 0 true)) (by rw [len2']; decide)
  rw [hset] at s1 s2 s3
  have la := bs_ld (hb B3) len3'
  have st := bs_st (hb B3) len3' len3'
  rw [hset] at st
  have hres : c_strings_makeASCIISet.res = [(2, some (true, 256)), (3, none)] := rfl
  have hpl := bs_pubL (s.enter.new (.cells 104 (bs B3))) B3
  have hfl := bs_frzL (s.enter.new (.cells 104 (bs B3))) B3
  have ov : Over s (s.enter.new (.cells 104 (bs B3))) := (Over.enter s).new _
  rw [hres]
  simp only [go_sem, W_cond, WO_guard2, WE_guard2, WQ_guard2, W_regD, KB_n, KB_x, Nat.reduceBEq, Nat.reduceAdd, Nat.reduceLT, Nat.reduceLeDiff, Nat.reduceEqDiff, reduceIte, Int.reduceEq, reduceCtorEq, hnb]
  refine W_loop (fun n e q => e.get 0 = .s K3 ∧ e.get 2 = .p s.nb 0 ∧ ∃ p : Nat, p + n = 3 ∧ e.get 4 = .i .i64 p ∧ q = s.enter.new (.cells 104 (bs ((K3.take p).foldl (fun B c => B.set c true) F256)))) ?_ 3 _ _ ?_
  · rintro n e q ⟨g0, g2, p, hp, g4, rfl⟩
    have : p = 0 ∨ p = 1 ∨ p = 2 ∨ p = 3 := by omega
    have hl : List.length K3 = 3 := rfl
    rcases this with rfl | rfl | rfl | rfl
    · have c1 : ((0 : Int) < 3) = True := by simp
      have c2 : ((128 : Int) ≤ 47) = False := by simp
      have hn : natOf (.i .u8 47) = some 47 := rfl
      have hw1 : IntKind.i64.wrap (0 + 1) = 1 := rfl
      have hx : ((K3.take 0).foldl (fun B c => B.set c true) F256) = F256 := rfl
      have hc0 : ((0 : Nat) : Int) = 0 := rfl
      rw [hx]
      simp only [go_sem, W_cond, WO_guard2, WE_guard2, WQ_guard2, W_regD, KB_n, KB_x, Nat.reduceBEq, Nat.reduceAdd, Nat.reduceLT, Nat.reduceLeDiff, Nat.reduceEqDiff, reduceIte, Int.reduceEq, reduceCtorEq, g0, g2, g4, List.length_cons, List.length_nil, ofNat_len, Int.cast_ofNat_Int, hc0, c1, natOf0, c2, hn, Nat.mul_one, Nat.zero_add, s1, hw1]
      exact ⟨n - 1, by omega, 1, by omega, rfl, rfl⟩
    · have c1 : ((1 : Int) < 3) = True := by simp
      have c2 : ((128 : Int) ≤ 0) = False := by simp
      have hn : natOf (.i .u8 0) = some 0 := rfl
      have hx : ((K3.take 1).foldl (fun B c => B.set c true) F256) = F256.set 47 true := rfl
      have hc0 : ((1 : Nat) : Int) = 1 := rfl
      rw [hx]
      simp only [go_sem, W_cond, WO_guard2, WE_guard2, WQ_guard2, W_regD, KB_n, KB_x, Nat.reduceBEq, Nat.reduceAdd, Nat.reduceLT, Nat.reduceLeDiff, Nat.reduceEqDiff, reduceIte, Int.reduceEq, reduceCtorEq, g0, g2, g4, List.length_cons, List.length_nil, ofNat_len, Int.cast_ofNat_Int, hc0, c1, natOf1, c2, hn, Nat.mul_one, Nat.zero_add, s2, w4]
      exact ⟨n - 1, by omega, 2, by omega, rfl, rfl⟩
    · have c1 : ((2 : Int) < 3) = True := by simp
      have c2 : ((128 : Int) ≤ 10) = False := by simp
      have hn : natOf (.i .u8 10) = some 10 := rfl
      have hx : ((K3.take 2).foldl (fun B c => B.set c true) F256) = (F256.set 47 true).set 0 true := rfl
      have hc0 : ((2 : Nat) : Int) = 2 := rfl
      rw [hx]
      simp only [go_sem, W_cond, WO_guard2, WE_guard2, WQ_guard2, W_regD, KB_n, KB_x, Nat.reduceBEq, Nat.reduceAdd, Nat.reduceLT, Nat.reduceLeDiff, Nat.reduceEqDiff, reduceIte, Int.reduceEq, reduceCtorEq, g0, g2, g4, List.length_cons, List.length_nil, ofNat_len, Int.cast_ofNat_Int, hc0, c1, natOf2, c2, hn, Nat.mul_one, Nat.zero_add, s3, w5]
      exact ⟨n - 1, by omega, 3, by omega, rfl, rfl⟩
    · have c1 : ((3 : Int) < 3) = False := by simp
      have hx : ((K3.take 3).foldl (fun B c => B.set c true) F256) = B3 := rfl
      have hc0 : ((3 : Nat) : Int) = 3 := rfl
      rw [hx]
      simp only [go_sem, W_cond, WO_guard2, WE_guard2, WQ_guard2, W_regD, KB_n, KB_x, Nat.reduceBEq, Nat.reduceAdd, Nat.reduceLT, Nat.reduceLeDiff, Nat.reduceEqDiff, reduceIte, Int.reduceEq, reduceCtorEq, g0, g2, g4, List.length_cons, List.length_nil, ofNat_len, Int.cast_ofNat_Int, hc0, c1, la, hpl, st, hfl, frz]
      refine KR_some ov ?_ ?_
      · simp [tupOf, AV.refs, AV.refs.go, bs_refs]
      · simp only [wkZ]
        have e1 : wk (.agg (List.replicate 256 .id)) (.agg (bs B3)) = .agg (bs B3) := by
          rw [wk, bs_wk]
        rw [e1]
        rfl
  · simp only [go_sem, W_cond, WO_guard2, WE_guard2, WQ_guard2, W_regD, KB_n, KB_x, Nat.reduceBEq, Nat.reduceAdd, Nat.reduceLT, Nat.reduceLeDiff, Nat.reduceEqDiff, reduceIte, Int.reduceEq, reduceCtorEq]
    exact ⟨rfl, 0, by omega, rfl, rfl⟩
theorem contains_ok {s : St} {id T : Nat} {B : List Bool} (h : s.box? id = some (.cells T (bs B))) {c : Nat} (hc : c < 256) {b : Bool} (hb : B[c]? = some b) : (lim prog).call f_strings_asciiSet_contains [.p id 0, .i .u8 (c : Int)] s = some (.b b, s) := by
  refine fn_W p_strings_asciiSet_contains rfl rfl ?_
  have hl : ldA s.enter false 1 (.p id c) = some (.b b) := bs_ld1 (s := s.enter) h hb
  have hlt : (c < 256) = True := by simp [hc]
  simp only [c_strings_asciiSet_contains, go_sem, W_cond, WO_guard2, WE_guard2, WQ_guard2, W_regD, KB_n, KB_x, Nat.reduceBEq, Nat.reduceAdd, Nat.reduceLT, Nat.reduceLeDiff, Nat.reduceEqDiff, reduceIte, Int.reduceEq, reduceCtorEq, natOf_u8, hlt, Nat.mul_one, Nat.zero_add, hl]
  exact KR_some (Over.enter s) rfl rfl
end Go.Proofs.YtkkfjoiffcmpeaaDoor

/-
  Names.
-/
set_option maxRecDepth 100000
set_option linter.unusedSimpArgs false
set_option linter.constructorNameAsVariable false
namespace Go.Proofs.YtkkfjoiffcmpeaaDoor
open Go.Proofs.YtkkfjoiffcmpeaaDoor.Am
theorem decode_w (s : ByteArray) (pos : Nat) (h : pos < s.size) (ha : 128 ≤ (s.get! (pos + 0)).toNat) : pos + (Utf8.decode s pos).2 ≤ s.size ∧ ∀ k, k < (Utf8.decode s pos).2 → 128 ≤ (s.get! (pos + k)).toNat := by
  have hn : ¬ (s.get! (pos + 0)).toNat < 128 := by omega
  simp only [Utf8.decode, hn, if_false]
  split
  · rename_i h1
    simp only [Bool.and_eq_true, beq_iff_eq, decide_eq_true_eq] at h1
    split
    · refine ⟨by simp only; omega, fun k hk => ?_⟩
      have : k = 0 ∨ k = 1 := by simp only at hk; omega
      rcases this with rfl | rfl <;> omega
    · refine ⟨by simp only; omega, fun k hk => ?_⟩
      have : k = 0 := by simp only at hk; omega
      subst this; omega
  · split
    · rename_i h1
      simp only [Bool.and_eq_true, beq_iff_eq, decide_eq_true_eq] at h1
      split
      · refine ⟨by simp only; omega, fun k hk => ?_⟩
        have : k = 0 ∨ k = 1 ∨ k = 2 := by simp only at hk; omega
        rcases this with rfl | rfl | rfl <;> omega
      · refine ⟨by simp only; omega, fun k hk => ?_⟩
        have : k = 0 := by simp only at hk; omega
        subst this; omega
    · split
      · rename_i h1
        simp only [Bool.and_eq_true, beq_iff_eq, decide_eq_true_eq] at h1
        split
        · refine ⟨by simp only; omega, fun k hk => ?_⟩
          have : k = 0 ∨ k = 1 ∨ k = 2 ∨ k = 3 := by simp only at hk; omega
          rcases this with rfl | rfl | rfl | rfl <;> omega
        · refine ⟨by simp only; omega, fun k hk => ?_⟩
          have : k = 0 := by simp only at hk; omega
          subst this; omega
      · refine ⟨by simp only; omega, fun k hk => ?_⟩
        have : k = 0 := by simp only at hk; omega
        subst this; omega
theorem bytes_get {l : List Nat} (hl : ∀ n ∈ l, n < 256) {i : Nat} (h : i < l.length) : ((⟨(l.map UInt8.ofNat).toArray⟩ : ByteArray).get! i).toNat = l[i] := by
  have h1 : i < (l.map UInt8.ofNat).toArray.size := by simpa using h
  have : (⟨(l.map UInt8.ofNat).toArray⟩ : ByteArray).get! i = UInt8.ofNat l[i] := by
    show (l.map UInt8.ofNat).toArray[i]! = _
    rw [getElem!_pos _ i h1]
    simp
  rw [this, u8N (hl _ (List.getElem_mem h))]
theorem bytes_size (l : List Nat) : (⟨(l.map UInt8.ofNat).toArray⟩ : ByteArray).size = l.length := by
  show (l.map UInt8.ofNat).toArray.size = _
  simp
theorem decode_l {l : List Nat} (hl : ∀ n ∈ l, n < 256) {pos : Nat} (h : pos < l.length) (hc : 128 ≤ l[pos]) :
    ∃ r w, Utf8.decode ⟨(l.map UInt8.ofNat).toArray⟩ pos = (r, w) ∧ 128 ≤ r ∧ r ≤ 2147483647 ∧ 1 ≤ w ∧ pos + w ≤ l.length ∧ ∀ k (hk : k < l.length), pos ≤ k → k < pos + w → 128 ≤ l[k] := by
  have hs := bytes_size l
  have hg := bytes_get hl h
  have hps : pos < (⟨(l.map UInt8.ofNat).toArray⟩ : ByteArray).size := by rw [hs]; exact h
  have hge := get_at (⟨(l.map UInt8.ofNat).toArray⟩ : ByteArray) pos hps
  have ha : 128 ≤ ((⟨(l.map UInt8.ofNat).toArray⟩ : ByteArray).get! (pos + 0)).toNat := by rw [Nat.add_zero, hg]; exact hc
  have h1 := decode_high (⟨(l.map UInt8.ofNat).toArray⟩ : ByteArray) pos hps (by rw [← hge]; exact ha)
  have h2 := decode_le (⟨(l.map UInt8.ofNat).toArray⟩ : ByteArray) pos
  have h3 := decode_w (⟨(l.map UInt8.ofNat).toArray⟩ : ByteArray) pos hps ha
  rw [hs] at h3
  obtain ⟨⟨r, w⟩, hrw⟩ : ∃ x, Utf8.decode (⟨(l.map UInt8.ofNat).toArray⟩ : ByteArray) pos = x := ⟨_, rfl⟩
  rw [hrw] at h1 h2 h3
  simp only at h1 h2 h3
  refine ⟨r, w, hrw, h1.1, h2, h1.2, h3.1, fun k hk h4 h5 => ?_⟩
  have h6 := h3.2 (k - pos) (by omega)
  rw [show pos + (k - pos) = k by omega, bytes_get hl hk] at h6
  exact h6
def anyK (l : List Nat) : Bool := l.any fun c => decide (c ∈ K3)
theorem runeP_neg {r : Int} (h : 128 ≤ r) : runeP r = -1 := by unfold runeP; rw [if_neg (by omega)]
theorem runeP_byte (c : Nat) (h : c < 128) : (0 ≤ runeP (c : Int)) ↔ c ∈ K3 := by
  unfold runeP
  rw [if_pos (by omega), Int.toNat_natCast]
  have := idxB_neg (c := c) (l := K3) (n := 0)
  constructor
  · intro h1
    by_cases h2 : c ∈ K3
    · exact h2
    · exact absurd (this.2 h2) (by omega)
  · intro h1
    by_cases h2 : idxB c 0 K3 < 0
    · exact absurd h1 (this.1 h2)
    · omega
theorem anyK_of {l : List Nat} {i : Nat} (h : i < l.length) (hm : l[i] ∈ K3) : anyK l = true := by
  unfold anyK
  rw [List.any_eq_true]
  exact ⟨_, List.getElem_mem h, by simpa using hm⟩
theorem anyK_false {l : List Nat} (h : ∀ i (hi : i < l.length), l[i] ∉ K3) : anyK l = false := by
  unfold anyK
  rw [List.any_eq_false]
  intro x hx
  obtain ⟨i, hi, rfl⟩ := List.mem_iff_getElem.1 hx
  simpa using h i hi
theorem shouldUse_ok (n : Int) (s : St) : (lim prog).call f_strings_shouldUseASCIISet [.i .i64 n] s = some (.b (decide (8 < n)), s) := by
  refine fn_W p_strings_shouldUseASCIISet rfl rfl ?_
  simp only [c_strings_shouldUseASCIISet, go_sem, W_cond, WO_guard2, WE_guard2, WQ_guard2, W_regD, KB_n, KB_x, Nat.reduceBEq, Nat.reduceAdd, Nat.reduceLT, Nat.reduceLeDiff, Nat.reduceEqDiff, reduceIte, Int.reduceEq, reduceCtorEq]
  exact KR_some (Over.enter s) rfl rfl
def IAP (l : List Nat) (s : St) (r : AV) (s' : St) : Prop := s' = s ∧ ∃ z : Int, r = .i .i64 z ∧ (decide (0 ≤ z)) = anyK l
theorem KH_i {s s2 : St} {l : List Nat} {z : Int} (hov : Over s s2) (h : decide (0 ≤ z) = anyK l) : KH s [CT.id] (IAP l s) (some ([.i .i64 z], s2)) := by
  refine ⟨_, _, rfl, ?_⟩
  show IAP l s (.i .i64 z) (leave s s2 (.i .i64 z))
  rw [hov.leave rfl]
  exact ⟨rfl, z, rfl, h⟩
theorem indexAny_ok (l : List Nat) (hl : Txt l) (s : St) (hw : Wf s) : ∃ r s', (lim prog).call f_strings_IndexAny [.s l, .s K3] s = some (r, s') ∧ IAP l s r s' := by
  refine fn_G (Post := IAP l s) p_strings_IndexAny rfl rfl ?_
  have hlen := hl.len
  have k1 : ((K3 : List Nat) = []) = False := by simp
  have k2 : ((3 : Int) = 1) = False := by simp
  have hkl : List.length K3 = 3 := rfl
  have ia_cin : c_strings_IndexAny.cin = [.id, .id] := rfl
  have ia_res : c_strings_IndexAny.res = [(4, none)] := rfl
  have ia_cout : c_strings_IndexAny.cout = [.id] := rfl
  rw [ia_body, ia_cin, ia_res, ia_cout]
  by_cases h8 : (8 : Int) < (l.length : Int)
  · have hmk := mk_ok s.enter hw.enter
    have hb0 : (s.enter.new (.cells 104 Z256)).box? s.enter.nb = some (.cells 104 (bs F256)) := new_box_self s.enter _
    have st := bs_st hb0 len3' len0
    rw [new_set] at st
    obtain ⟨s1, hs1⟩ : ∃ s1, s.enter.new (.cells 104 (bs B3)) = s1 := ⟨_, rfl⟩
    have hb1 : s1.box? s.enter.nb = some (.cells 104 (bs B3)) := by rw [← hs1]; exact new_box_self s.enter _
    have ov1 : Over s s1 := by rw [← hs1]; exact (Over.enter s).new _
    rw [hs1] at st
    have hcells : (AV.agg (bs B3)).cells.length = 256 := by show (bs B3).length = 256; simpa using len3'
    simp only [go_sem, W_cond, WO_guard2, WE_guard2, WQ_guard2, W_regD, KB_n, KB_x, Nat.reduceBEq, Nat.reduceAdd, Nat.reduceLT, Nat.reduceLeDiff, Nat.reduceEqDiff, reduceIte, Int.reduceEq, reduceCtorEq, ofNat_len, hkl, Int.cast_ofNat_Int, k1, k2, shouldUse_ok, h8, hmk, st]
    refine W_loop (fun n e q => ∃ i : Nat, i + n = l.length ∧ q = s1 ∧ e.get 0 = .s l ∧ e.get 6 = .p s.enter.nb 0 ∧ e.get 8 = .i .i64 i ∧ ∀ (j : Nat) (hj : j < l.length), j < i → l[j] ∉ K3) ?_ l.length _ _ ?_
    · rintro n e q ⟨i, hi, rfl, g0, g6, g8, hno⟩
      simp only [go_sem, W_cond, WO_guard2, WE_guard2, WQ_guard2, W_regD, KB_n, KB_x, Nat.reduceBEq, Nat.reduceAdd, Nat.reduceLT, Nat.reduceLeDiff, Nat.reduceEqDiff, reduceIte, Int.reduceEq, reduceCtorEq, g0, g8, ofNat_len]
      refine CP_dec (fun hlt => ?_) (fun hge => ?_)
      · have hlt : i < l.length := by omega
        have hget : l[i]? = some l[i] := List.getElem?_eq_getElem hlt
        have h256 := hl.lt l[i] (List.getElem_mem hlt)
        have hc := contains_ok hb1 h256 (b3_get h256)
        simp only [go_sem, W_cond, WO_guard2, WE_guard2, WQ_guard2, W_regD, KB_n, KB_x, Nat.reduceBEq, Nat.reduceAdd, Nat.reduceLT, Nat.reduceLeDiff, Nat.reduceEqDiff, reduceIte, Int.reduceEq, reduceCtorEq, g0, g6, g8, natOf_i64, hget, ofNat_len, hc]
        refine CP_dec (fun hm => ?_) (fun hm => ?_)
        · exact KH_i ov1 (by rw [anyK_of hlt hm]; simp)
        · simp only [go_sem, W_cond, WO_guard2, WE_guard2, WQ_guard2, W_regD, KB_n, KB_x, Nat.reduceBEq, Nat.reduceAdd, Nat.reduceLT, Nat.reduceLeDiff, Nat.reduceEqDiff, reduceIte, Int.reduceEq, reduceCtorEq, wrap_succ (show i + 1 < 2 ^ 63 by omega), g0, g6, g8]
          refine ⟨n - 1, by omega, i + 1, by omega, rfl, fun j hj hji => ?_⟩
          by_cases hje : j = i
          · subst hje; exact hm
          · exact hno j hj (by omega)
      · exact KH_i ov1 (by rw [anyK_false fun j hj => hno j hj (by omega)]; decide)
    · simp only [go_sem, W_cond, WO_guard2, WE_guard2, WQ_guard2, W_regD, KB_n, KB_x, Nat.reduceBEq, Nat.reduceAdd, Nat.reduceLT, Nat.reduceLeDiff, Nat.reduceEqDiff, reduceIte, Int.reduceEq, reduceCtorEq]
      exact ⟨0, by omega, rfl, fun j hj h => by omega⟩
  · have hsi : ∀ p p', (s.enter.new (.siter l p)).setBox s.enter.nb (.siter l p') = s.enter.new (.siter l p') := fun p p' => new_set _ _ _
    simp only [go_sem, W_cond, WO_guard2, WE_guard2, WQ_guard2, W_regD, KB_n, KB_x, Nat.reduceBEq, Nat.reduceAdd, Nat.reduceLT, Nat.reduceLeDiff, Nat.reduceEqDiff, reduceIte, Int.reduceEq, reduceCtorEq, ofNat_len, hkl, Int.cast_ofNat_Int, k1, k2, shouldUse_ok, h8]
    refine W_loop (fun n e q => ∃ i : Nat, i + n = l.length ∧ q = s.enter.new (.siter l i) ∧ e.get 1 = .s K3 ∧ e.get 45 = .p s.enter.nb 0 ∧ ∀ (j : Nat) (hj : j < l.length), j < i → l[j] ∉ K3) ?_ l.length _ _ ?_
    · rintro n e q ⟨i, hi, rfl, g1, g45, hno⟩
      have ov1 : ∀ p, Over s (s.enter.new (.siter l p)) := fun p => (Over.enter s).new _
      by_cases hlt : i < l.length
      · have hget : l[i]? = some l[i] := List.getElem?_eq_getElem hlt
        by_cases h128 : l[i] < 128
        · have h128' : (l[i] < 128) = True := by simp [h128]
          have hr := indexRune_ok (l[i] : Int) (by omega) (by omega)
          simp only [go_sem, W_cond, WO_guard2, WE_guard2, WQ_guard2, W_regD, KB_n, KB_x, Nat.reduceBEq, Nat.reduceAdd, Nat.reduceLT, Nat.reduceLeDiff, Nat.reduceEqDiff, reduceIte, Int.reduceEq, reduceCtorEq, g1, g45, hget, h128', ofNat_len, hsi, hr]
          refine CP_dec (fun hm => ?_) (fun hm => ?_)
          · exact KH_i (ov1 _) (by rw [anyK_of hlt ((runeP_byte _ h128).1 hm)]; simp)
          · trace_state
            refine ⟨n - 1, by omega, i + 1, by omega, rfl, fun j hj hji => ?_⟩
            by_cases hje : j = i
            · subst hje; exact fun hh => hm ((runeP_byte _ h128).2 hh)
            · exact hno j hj (by omega)
        · have h128' : (l[i] < 128) = False := by simp [h128]
          obtain ⟨r, w, e1, e2, e3, e4, e5, e6⟩ := decode_l hl.lt hlt (by omega)
          have hr := indexRune_ok (r : Int) (by omega) (by omega)
          rw [runeP_neg (by omega)] at hr
          have hm1 : ((0 : Int) ≤ -1) = False := by simp
          simp only [go_sem, W_cond, WO_guard2, WE_guard2, WQ_guard2, W_regD, KB_n, KB_x, Nat.reduceBEq, Nat.reduceAdd, Nat.reduceLT, Nat.reduceLeDiff, Nat.reduceEqDiff, reduceIte, Int.reduceEq, reduceCtorEq, g1, g45, hget, h128', ofNat_len, hsi, e1, hr, hm1]
          refine ⟨n - w, by omega, i + w, by omega, rfl, fun j hj hji => ?_⟩
          by_cases hje : j < i
          · exact hno j hj hje
          · have := e6 j hj (by omega) hji
            simp only [List.mem_cons, List.not_mem_nil, or_false]
            omega
      · have hget : l[i]? = none := List.getElem?_eq_none (by omega)
        simp only [go_sem, W_cond, WO_guard2, WE_guard2, WQ_guard2, W_regD, KB_n, KB_x, Nat.reduceBEq, Nat.reduceAdd, Nat.reduceLT, Nat.reduceLeDiff, Nat.reduceEqDiff, reduceIte, Int.reduceEq, reduceCtorEq, g1, g45, hget]
        exact KH_i (ov1 _) (by rw [anyK_false fun j hj => hno j hj (by omega)]; decide)
    · simp only [go_sem, W_cond, WO_guard2, WE_guard2, WQ_guard2, W_regD, KB_n, KB_x, Nat.reduceBEq, Nat.reduceAdd, Nat.reduceLT, Nat.reduceLeDiff, Nat.reduceEqDiff, reduceIte, Int.reduceEq, reduceCtorEq]
      exact ⟨0, by omega, rfl, fun j hj h => by omega⟩
theorem containsAny_ok (l : List Nat) (hl : Txt l) (s : St) (hw : Wf s) : (lim prog).call f_strings_ContainsAny [.s l, .s K3] s = some (.b (anyK l), s) := by
  refine fn_W p_strings_ContainsAny rfl rfl ?_
  obtain ⟨r, s', h, rfl, z, rfl, hz⟩ := indexAny_ok l hl s.enter hw.enter
  simp only [c_strings_ContainsAny, go_sem, W_cond, WO_guard2, WE_guard2, WQ_guard2, W_regD, KB_n, KB_x, Nat.reduceBEq, Nat.reduceAdd, Nat.reduceLT, Nat.reduceLeDiff, Nat.reduceEqDiff, reduceIte, Int.reduceEq, reduceCtorEq, h]
  exact KR_some (Over.enter s) rfl (by rw [hz]; rfl)
def nameP (l : List Nat) : Bool := decide (l ≠ []) && (decide (l.length ≤ 64) && (decide (l ≠ [46]) && (decide (l ≠ [46, 46]) && !anyK l)))
theorem name_ok (l : List Nat) (hl : Txt l) (s : St) (hw : Wf s) : (lim prog).call f_path_Name [.s l] s = some (.b (nameP l), s) := by
  refine fn_W p_path_Name rfl rfl ?_
  have hc := containsAny_ok l hl s.enter hw.enter
  have hk : ∀ b, b = nameP l → KR s [CT.id] (.b (nameP l)) (some ([.b b], s.enter)) := fun b hb => KR_some (Over.enter s) rfl (by rw [hb]; rfl)
  have h64i : ∀ h : l.length ≤ 64, (((l.length : Nat) : Int) ≤ 64) = True := fun h => by simp; omega
  by_cases h1 : l = []
  · have h1' : (l ≠ []) = False := by simp [h1]
    simp only [c_path_Name, go_sem, W_cond, WO_guard2, WE_guard2, WQ_guard2, W_regD, KB_n, KB_x, Nat.reduceBEq, Nat.reduceAdd, Nat.reduceLT, Nat.reduceLeDiff, Nat.reduceEqDiff, reduceIte, Int.reduceEq, reduceCtorEq, h1']
    exact hk _ (by simp [nameP, h1])
  · have h1' : (l ≠ []) = True := by simp [h1]
    by_cases h2 : l.length ≤ 64
    · have h2' := h64i h2
      by_cases h3 : l = [46]
      · have h3' : (l ≠ [46]) = False := by simp [h3]
        simp only [c_path_Name, go_sem, W_cond, WO_guard2, WE_guard2, WQ_guard2, W_regD, KB_n, KB_x, Nat.reduceBEq, Nat.reduceAdd, Nat.reduceLT, Nat.reduceLeDiff, Nat.reduceEqDiff, reduceIte, Int.reduceEq, reduceCtorEq, ofNat_len, h1', h2', h3']
        exact hk _ (by simp [nameP, h3])
      · have h3' : (l ≠ [46]) = True := by simp [h3]
        by_cases h4 : l = [46, 46]
        · have h4' : (l ≠ [46, 46]) = False := by simp [h4]
          simp only [c_path_Name, go_sem, W_cond, WO_guard2, WE_guard2, WQ_guard2, W_regD, KB_n, KB_x, Nat.reduceBEq, Nat.reduceAdd, Nat.reduceLT, Nat.reduceLeDiff, Nat.reduceEqDiff, reduceIte, Int.reduceEq, reduceCtorEq, ofNat_len, h1', h2', h3', h4']
          exact hk _ (by simp [nameP, h4])
        · have h4' : (l ≠ [46, 46]) = True := by simp [h4]
          simp only [c_path_Name, go_sem, W_cond, WO_guard2, WE_guard2, WQ_guard2, W_regD, KB_n, KB_x, Nat.reduceBEq, Nat.reduceAdd, Nat.reduceLT, Nat.reduceLeDiff, Nat.reduceEqDiff, reduceIte, Int.reduceEq, reduceCtorEq, ofNat_len, h1', h2', h3', h4', hc]
          exact hk _ (by simp [nameP, h1, h2, h3, h4])
    · have h2' : (((l.length : Nat) : Int) ≤ 64) = False := by simp; omega
      simp only [c_path_Name, go_sem, W_cond, WO_guard2, WE_guard2, WQ_guard2, W_regD, KB_n, KB_x, Nat.reduceBEq, Nat.reduceAdd, Nat.reduceLT, Nat.reduceLeDiff, Nat.reduceEqDiff, reduceIte, Int.reduceEq, reduceCtorEq, ofNat_len, h1', h2']
      exact hk _ (by simp [nameP, h2])
end Go.Proofs.YtkkfjoiffcmpeaaDoor

/-
  ftree.Well.
-/
set_option maxRecDepth 100000
set_option linter.unusedSimpArgs false
set_option linter.constructorNameAsVariable false
namespace Go.Proofs.YtkkfjoiffcmpeaaDoor
open Go.Proofs.YtkkfjoiffcmpeaaDoor.Am
mutual
def wellN : ND → Bool
  | .mk k t ns ks => if k = 1 ∨ k = 3 then decide (ns = []) && (decide (ks.length = 0) && (decide (t.length ≤ 256) && (!t.contains 0 && (decide (k = 1) || decide (t ≠ []))))) else
    if k = 2 then decide (t = []) && (decide (ns.length = ks.length) && wellL none ns ks) else false
def wellL : Option (List Nat) → List (List Nat) → List ND → Bool
  | _, _, [] => true
  | _, [], _ :: _ => true
  | p, s :: ns, k :: ks => nameP s && ((match p with | none => true | some q => ltN q s) && (wellN k && wellL (some s) ns ks))
end
theorem idxB0 : ∀ (t : List Nat) (n : Nat), (decide (idxB 0 n t < 0)) = !t.contains 0
  | [], n => by simp [idxB]
  | a :: t, n => by
    cases h : Nat.beq a 0 with
    | true =>
      have : a = 0 := by simpa using h
      subst this
      simp [idxB]
    | false =>
      have h1 : a ≠ 0 := by intro hh; subst hh; simp at h
      simp only [idxB, h, cond_false, idxB0 t (n + 1)]
      have : (a == 0) = false := by simp [h1]
      simp [List.contains_cons, h1, eq_comm]
theorem bs_leq (x y : List Nat) : Am.binOp .leq (.s x) (.s y) = some (.b (ltN x y || beqN x y)) := by simp [Am.binOp, strOp]
theorem ltN_total : ∀ (a b : List Nat), (ltN a b || beqN a b) = !ltN b a
  | [], [] => rfl
  | [], _ :: _ => rfl
  | _ :: _, [] => rfl
  | a :: x, b :: y => by
    have := ltN_total x y
    simp only [ltN, beqN]
    rcases Nat.lt_trichotomy a b with h | h | h
    · have e1 : Nat.blt a b = true := by rw [Nat.blt_eq]; exact h
      have e2 : Nat.blt b a = false := by rw [Bool.eq_false_iff]; intro hh; rw [Nat.blt_eq] at hh; omega
      have e3 : Nat.beq b a = false := by rw [Bool.eq_false_iff]; intro hh; rw [Nat.beq_eq] at hh; omega
      simp [e1, e2, e3]
    · subst h
      have e1 : Nat.blt a a = false := by rw [Bool.eq_false_iff]; intro hh; rw [Nat.blt_eq] at hh; omega
      simp only [e1, Nat.beq_refl, Bool.true_and, Bool.false_or, this]
    · have e1 : Nat.blt b a = true := by rw [Nat.blt_eq]; exact h
      have e2 : Nat.blt a b = false := by rw [Bool.eq_false_iff]; intro hh; rw [Nat.blt_eq] at hh; omega
      have e3 : Nat.beq a b = false := by rw [Bool.eq_false_iff]; intro hh; rw [Nat.beq_eq] at hh; omega
      simp [e1, e2, e3]
theorem wellL_snoc : ∀ (p : Option (List Nat)) (ns : List (List Nat)) (ks : List ND) (s : List Nat) (k : ND), ns.length = ks.length →
    wellL p (ns ++ [s]) (ks ++ [k]) = (wellL p ns ks && (nameP s && ((match ns.getLast?.or p with | none => true | some q => ltN q s) && wellN k)))
  | p, [], [], s, k, _ => by
    simp only [List.nil_append, wellL, Bool.and_true, Bool.true_and, List.getLast?_nil, Option.none_or]
  | p, a :: ns, b :: ks, s, k, h => by
    simp only [List.length_cons, Nat.add_right_cancel_iff] at h
    simp only [List.cons_append, wellL, wellL_snoc (some a) ns ks s k h, Bool.and_assoc]
    have : (a :: ns).getLast?.or p = (ns.getLast?.or (some a)) := by
      cases ns with
      | nil => rfl
      | cons c ns =>
        cases hns : (c :: ns).getLast? with
        | none => simp at hns
        | some v => rw [List.getLast?_cons_cons, hns]; rfl
    rw [this]
  | _, [], _ :: _, _, _, h => by simp at h
  | _, _ :: _, [], _, _, h => by simp at h
theorem wellL_take (n : ND) : ∀ (p : Option (List Nat)) (ns : List (List Nat)) (ks : List ND) (i : Nat), wellL p ns ks = true → wellL p (ns.take i) (ks.take i) = true
  | _, _, _, 0, _ => by simp [wellL]
  | _, _, [], i + 1, _ => by simp [wellL]
  | _, [], _ :: _, i + 1, _ => by simp [wellL]
  | p, s :: ns, k :: ks, i + 1, h => by
    simp only [List.take_succ_cons, wellL, Bool.and_eq_true] at h ⊢
    exact ⟨h.1, h.2.1, h.2.2.1, wellL_take n (some s) ns ks i h.2.2.2⟩
end Go.Proofs.YtkkfjoiffcmpeaaDoor

/-
  ftree.Well.
-/
set_option maxRecDepth 100000
set_option maxHeartbeats 2000000
set_option linter.unusedSimpArgs false
set_option linter.constructorNameAsVariable false
namespace Go.Proofs.YtkkfjoiffcmpeaaDoor
open Go.Proofs.YtkkfjoiffcmpeaaDoor.Am
attribute [local irreducible] W WO WE WQ WD Tr.get Tr.set
inductive ND.Ok : ND → Prop
  | mk {k : Nat} {t : List Nat} {ns : List (List Nat)} {ks : List ND} : k < 256 → Txt t → t.length < 2 ^ 62 → (∀ l ∈ ns, Txt l) → ns.length < 2 ^ 34 → ks.length < 2 ^ 34 → (∀ x ∈ ks, ND.Ok x) → ND.Ok (.mk k t ns ks)
theorem ND.Ok.kind {n : ND} (h : n.Ok) : n.kind < 256 := by cases h; assumption
theorem ND.Ok.text {n : ND} (h : n.Ok) : Txt n.text ∧ n.text.length < 2 ^ 62 := by cases h; exact ⟨by assumption, by assumption⟩
theorem ND.Ok.names {n : ND} (h : n.Ok) : (∀ l ∈ n.names, Txt l) ∧ n.names.length < 2 ^ 34 := by cases h; exact ⟨by assumption, by assumption⟩
theorem ND.Ok.kids {n : ND} (h : n.Ok) : (∀ k ∈ n.kids, k.Ok) ∧ n.kids.length < 2 ^ 34 := by cases h; exact ⟨by assumption, by assumption⟩
theorem wellN_eq (n : ND) : wellN n = if n.kind = 1 ∨ n.kind = 3 then decide (n.names = []) && (decide (n.kids.length = 0) && (decide (n.text.length ≤ 256) && (!n.text.contains 0 && (decide (n.kind = 1) || decide (n.text ≠ []))))) else
    if n.kind = 2 then decide (n.text = []) && (decide (n.names.length = n.kids.length) && wellL none n.names n.kids) else false := by
  cases n with
  | mk k t ns ks => rw [wellN]; rfl
theorem getLast_take {L : List (List Nat)} {i : Nat} {y : List Nat} (h : L[i]? = some y) : (L.take (i + 1)).getLast? = some y := by
  rw [List.take_add_one, h]
  simp
theorem well_ok : ∀ n : ND, n.Ok → ∀ s, Wf s → (lim prog).call f_ftree_Well [.agg n.cells] s = some (.b (wellN n), s) := by
  refine ND.ind fun n ih ho s hw => ?_
  refine fn_W p_ftree_Well rfl rfl ?_
  have H1 := (Hp.begin hw).new (.cells 25 n.cells)
  generalize hq : s.enter.new (.cells 25 n.cells) = q at H1
  generalize hm : s.enter.nb = m at H1
  have l0 := H1.ld 0 (off := 0) (v := .i .u8 (n.kind : Nat)) rfl rfl
  have l1 := H1.ld 0 (off := 1) (v := .s n.text) rfl rfl
  have l2 := H1.ld 0 (off := 2) (v := tx n.names) rfl rfl
  have l3 := H1.ld 0 (off := 3) (v := .ws false 4 (n.kids.map ND.av)) rfl rfl
  have hz0 : wkZ c_ftree_Well.cin [.agg n.cells] = [.agg n.cells] := by simp [c_ftree_Well, wkZ, wk, ND.cells]
  rw [hz0, wellN_eq]
  have hbr : ∀ b, KR s [.id] (.b b) (some ([.b b], q)) := fun b => KR_some H1.over rfl rfl
  have hib := indexByte_ok n.text 0 (by omega) q
  have hi0 := idxB0 n.text 0
  by_cases c1 : n.kind = 1 ∨ n.kind = 3
  · rw [if_pos c1]
    have hsum : IntKind.i64.wrap ((n.names.length : Int) + (n.kids.length : Int)) = ((n.names.length + n.kids.length : Nat) : Int) := by
      rw [show (n.names.length : Int) + (n.kids.length : Int) = ((n.names.length + n.kids.length : Nat) : Int) by omega]
      exact wrap_nat (by have := ho.names.2; have := ho.kids.2; omega)
    have hib : (lim prog).call f_strings_IndexByte [AV.s n.text, AV.i IntKind.u8 0] q = some (AV.i IntKind.i64 (idxB 0 0 n.text), q) := hib
    by_cases k1 : n.kind = 1
    · have e1 : ((n.kind : Int) = 1) = True := by simp only [eq_iff_iff, iff_true]; omega
      have e2 : True := trivial
      by_cases d1 : n.names.length + n.kids.length = 0
      · have f1 : (((n.names.length + n.kids.length : Nat) : Int) = 0) = True := by simp only [eq_iff_iff, iff_true]; omega
        have g1 : n.names = [] := List.length_eq_zero_iff.1 (by omega)
        have g2 : n.kids.length = 0 := by omega
        by_cases d2 : n.text.length ≤ 256
        · have f2 : ((n.text.length : Int) ≤ 256) = True := by simp only [eq_iff_iff, iff_true]; omega
          by_cases d3 : idxB 0 0 n.text < 0
          · have f3 : (idxB 0 0 n.text < 0) = True := by simp only [eq_iff_iff, iff_true]; exact d3
            rw [decide_eq_true d3] at hi0
            rw [← hi0, decide_eq_true g1, decide_eq_true g2, decide_eq_true d2, decide_eq_true k1]
            simp only [c_ftree_Well, go_sem, W_cond2, WO_guard3, WE_guard3, WQ_guard3, KB_n, KB_x, Nat.reduceBEq, Nat.reduceAdd, Nat.reduceLT, Nat.reduceLeDiff, Nat.reduceEqDiff, reduceIte, Int.reduceEq, reduceCtorEq, cells4, hq, hm, l0, l1, l2, l3, Nat.zero_add, e1, List.length_map, hsum, f1, f2, hib, f3]
            exact hbr _
          · have f3 : (idxB 0 0 n.text < 0) = False := by simp only [eq_iff_iff, iff_false]; exact d3
            rw [decide_eq_false d3] at hi0
            rw [← hi0]
            simp only [c_ftree_Well, go_sem, W_cond2, WO_guard3, WE_guard3, WQ_guard3, KB_n, KB_x, Nat.reduceBEq, Nat.reduceAdd, Nat.reduceLT, Nat.reduceLeDiff, Nat.reduceEqDiff, reduceIte, Int.reduceEq, reduceCtorEq, cells4, hq, hm, l0, l1, l2, l3, Nat.zero_add, e1, e2, List.length_map, hsum, f1, f2, hib, f3, Bool.false_and, Bool.and_false]
            exact hbr _
        · have f2 : ((n.text.length : Int) ≤ 256) = False := by simp only [eq_iff_iff, iff_false]; omega
          simp only [c_ftree_Well, go_sem, W_cond2, WO_guard3, WE_guard3, WQ_guard3, KB_n, KB_x, Nat.reduceBEq, Nat.reduceAdd, Nat.reduceLT, Nat.reduceLeDiff, Nat.reduceEqDiff, reduceIte, Int.reduceEq, reduceCtorEq, cells4, hq, hm, l0, l1, l2, l3, Nat.zero_add, e1, e2, List.length_map, hsum, f1, f2, decide_eq_false d2, Bool.false_and, Bool.and_false]
          exact hbr _
      · have f1 : (((n.names.length + n.kids.length : Nat) : Int) = 0) = False := by simp only [eq_iff_iff, iff_false]; omega
        have : (decide (n.names = []) && (decide (n.kids.length = 0) && (decide (n.text.length ≤ 256) && (!n.text.contains 0 && (decide (n.kind = 1) || decide (n.text ≠ [])))))) = false := by
          by_cases g1 : n.names = []
          · have g2 : n.kids.length ≠ 0 := by intro h; exact d1 (by rw [g1, h]; rfl)
            simp [g2]
          · simp [g1]
        rw [this]
        simp only [c_ftree_Well, go_sem, W_cond2, WO_guard3, WE_guard3, WQ_guard3, KB_n, KB_x, Nat.reduceBEq, Nat.reduceAdd, Nat.reduceLT, Nat.reduceLeDiff, Nat.reduceEqDiff, reduceIte, Int.reduceEq, reduceCtorEq, cells4, hq, hm, l0, l1, l2, l3, Nat.zero_add, e1, e2, List.length_map, hsum, f1]
        exact hbr _
    · have e1 : ((n.kind : Int) = 1) = False := by simp only [eq_iff_iff, iff_false]; omega
      have e2 : ((n.kind : Int) = 3) = True := by simp only [eq_iff_iff, iff_true]; omega
      by_cases d1 : n.names.length + n.kids.length = 0
      · have f1 : (((n.names.length + n.kids.length : Nat) : Int) = 0) = True := by simp only [eq_iff_iff, iff_true]; omega
        have g1 : n.names = [] := List.length_eq_zero_iff.1 (by omega)
        have g2 : n.kids.length = 0 := by omega
        by_cases d2 : n.text.length ≤ 256
        · have f2 : ((n.text.length : Int) ≤ 256) = True := by simp only [eq_iff_iff, iff_true]; omega
          by_cases d3 : idxB 0 0 n.text < 0
          · have f3 : (idxB 0 0 n.text < 0) = True := by simp only [eq_iff_iff, iff_true]; exact d3
            rw [decide_eq_true d3] at hi0
            rw [← hi0, decide_eq_true g1, decide_eq_true g2, decide_eq_true d2, decide_eq_false k1]
            by_cases d4 : n.text = []
            · have f4 : (n.text ≠ []) = False := by simp [d4]
              simp only [c_ftree_Well, go_sem, W_cond2, WO_guard3, WE_guard3, WQ_guard3, KB_n, KB_x, Nat.reduceBEq, Nat.reduceAdd, Nat.reduceLT, Nat.reduceLeDiff, Nat.reduceEqDiff, reduceIte, Int.reduceEq, reduceCtorEq, cells4, hq, hm, l0, l1, l2, l3, Nat.zero_add, e1, e2, List.length_map, hsum, f1, f2, hib, f3, f4, Bool.or_false]
              exact hbr _
            · have f4 : (n.text ≠ []) = True := by simp [d4]
              simp only [c_ftree_Well, go_sem, W_cond2, WO_guard3, WE_guard3, WQ_guard3, KB_n, KB_x, Nat.reduceBEq, Nat.reduceAdd, Nat.reduceLT, Nat.reduceLeDiff, Nat.reduceEqDiff, reduceIte, Int.reduceEq, reduceCtorEq, cells4, hq, hm, l0, l1, l2, l3, Nat.zero_add, e1, e2, List.length_map, hsum, f1, f2, hib, f3, f4]
              exact hbr _
          · have f3 : (idxB 0 0 n.text < 0) = False := by simp only [eq_iff_iff, iff_false]; exact d3
            rw [decide_eq_false d3] at hi0
            rw [← hi0]
            simp only [c_ftree_Well, go_sem, W_cond2, WO_guard3, WE_guard3, WQ_guard3, KB_n, KB_x, Nat.reduceBEq, Nat.reduceAdd, Nat.reduceLT, Nat.reduceLeDiff, Nat.reduceEqDiff, reduceIte, Int.reduceEq, reduceCtorEq, cells4, hq, hm, l0, l1, l2, l3, Nat.zero_add, e1, e2, List.length_map, hsum, f1, f2, hib, f3, Bool.false_and, Bool.and_false]
            exact hbr _
        · have f2 : ((n.text.length : Int) ≤ 256) = False := by simp only [eq_iff_iff, iff_false]; omega
          simp only [c_ftree_Well, go_sem, W_cond2, WO_guard3, WE_guard3, WQ_guard3, KB_n, KB_x, Nat.reduceBEq, Nat.reduceAdd, Nat.reduceLT, Nat.reduceLeDiff, Nat.reduceEqDiff, reduceIte, Int.reduceEq, reduceCtorEq, cells4, hq, hm, l0, l1, l2, l3, Nat.zero_add, e1, e2, List.length_map, hsum, f1, f2, decide_eq_false d2, Bool.false_and, Bool.and_false]
          exact hbr _
      · have f1 : (((n.names.length + n.kids.length : Nat) : Int) = 0) = False := by simp only [eq_iff_iff, iff_false]; omega
        have : (decide (n.names = []) && (decide (n.kids.length = 0) && (decide (n.text.length ≤ 256) && (!n.text.contains 0 && (decide (n.kind = 1) || decide (n.text ≠ [])))))) = false := by
          by_cases g1 : n.names = []
          · have g2 : n.kids.length ≠ 0 := by intro h; exact d1 (by rw [g1, h]; rfl)
            simp [g2]
          · simp [g1]
        rw [this]
        simp only [c_ftree_Well, go_sem, W_cond2, WO_guard3, WE_guard3, WQ_guard3, KB_n, KB_x, Nat.reduceBEq, Nat.reduceAdd, Nat.reduceLT, Nat.reduceLeDiff, Nat.reduceEqDiff, reduceIte, Int.reduceEq, reduceCtorEq, cells4, hq, hm, l0, l1, l2, l3, Nat.zero_add, e1, e2, List.length_map, hsum, f1]
        exact hbr _
  · rw [if_neg c1]
    by_cases c2 : n.kind = 2
    · rw [if_pos c2]
      have e1 : ((n.kind : Int) = 1) = False := by simp only [eq_iff_iff, iff_false]; omega
      have e2 : ((n.kind : Int) = 3) = False := by simp only [eq_iff_iff, iff_false]; omega
      have e3 : ((n.kind : Int) = 2) = True := by simp only [eq_iff_iff, iff_true]; omega
      by_cases d1 : n.text = []
      · have f1 : (n.text ≠ []) = False := by simp [d1]
        by_cases d2 : n.names.length = n.kids.length
        · have f2 : ((n.names.length : Int) ≠ (n.kids.length : Int)) = False := by simp only [ne_eq, eq_iff_iff, iff_false]; omega
          rw [decide_eq_true d1, decide_eq_true d2]
          simp only [c_ftree_Well, go_sem, W_cond2, WO_guard3, WE_guard3, WQ_guard3, KB_n, KB_x, Nat.reduceBEq, Nat.reduceAdd, Nat.reduceLT, Nat.reduceLeDiff, Nat.reduceEqDiff, reduceIte, Int.reduceEq, reduceCtorEq, cells4, hq, hm, l0, l1, l2, l3, Nat.zero_add, e1, e2, e3, List.length_map, f1, f2]
          refine W_loop (fun x e q => ∃ i : Nat, i + x = n.names.length ∧ Hp s q s.en [] [(m, .cells 25 n.cells)] ∧ wellL none (n.names.take i) (n.kids.take i) = true ∧ e.get 1 = .p m 0 ∧ e.get 55 = tx n.names ∧ e.get 56 = .i .i64 (n.names.length : Nat) ∧ e.get 57 = .i .i64 (i : Nat)) ?_ n.names.length _ _ ?_
          · rintro x e q' ⟨i, hi, H, hwl, g1, g55, g56, g57⟩
            have l2 := H.ld 0 (off := 2) (v := tx n.names) rfl rfl
            have l3 := H.ld 0 (off := 3) (v := .ws false 4 (n.kids.map ND.av)) rfl rfl
            have hbr : ∀ b, KR s [.id] (.b b) (some ([.b b], q')) := fun b => KR_some H.over rfl rfl
            have hnl := ho.names.2
            by_cases h : i < n.names.length
            · have h1 : ((i : Int) < (n.names.length : Int)) = True := by simp only [eq_iff_iff, iff_true]; omega
              obtain ⟨y, hy⟩ : ∃ y, n.names[i]? = some y := ⟨_, List.getElem?_eq_getElem h⟩
              obtain ⟨k, hk⟩ : ∃ k, n.kids[i]? = some k := ⟨_, List.getElem?_eq_getElem (by omega)⟩
              have hy2 : (n.names.map AV.s)[i]? = some (.s y) := by rw [List.getElem?_map, hy]; rfl
              have hk2 := kid_get hk
              have hkm : k ∈ n.kids := List.mem_of_getElem? hk
              have hym : y ∈ n.names := List.mem_of_getElem? hy
              have hnm := name_ok y (ho.names.1 y hym) q' H.wf
              have hkc := ih k hkm (ho.kids.1 k hkm) q' H.wf
              have hld : ldA q' true 4 (.ep k.cells 0 .shut) = some (.agg k.cells) := rfl
              have hw1 := wrap_succ (show i + 1 < 2 ^ 63 by omega)
              have htk : n.names.take (i + 1) = n.names.take i ++ [y] := by rw [List.take_add_one, hy]; rfl
              have htk2 : n.kids.take (i + 1) = n.kids.take i ++ [k] := by rw [List.take_add_one, hk]; rfl
              have hsn := wellL_snoc none (n.names.take i) (n.kids.take i) y k (by rw [List.length_take, List.length_take]; omega)
              rw [← htk, ← htk2, hwl, Bool.true_and] at hsn
              have hno : wellL none (n.names.take (i + 1)) (n.kids.take (i + 1)) = false → wellL none n.names n.kids = false := fun hf => by
                rw [Bool.eq_false_iff]
                intro ht
                rw [wellL_take n none n.names n.kids (i + 1) ht] at hf
                cases hf
              cases hn1 : nameP y with
              | false =>
                rw [hn1] at hnm hsn
                rw [hno hsn]
                simp only [go_sem, W_cond2, WO_guard3, WE_guard3, WQ_guard3, KB_n, KB_x, Nat.reduceBEq, Nat.reduceAdd, Nat.reduceLT, Nat.reduceLeDiff, Nat.reduceEqDiff, reduceIte, Int.reduceEq, reduceCtorEq, g1, g55, g56, g57, h1, natOf_nat, hy2, cells_s, ldA_1, hnm]
                exact hbr _
              | true =>
              rw [hn1] at hnm hsn
              cases i with
              | zero =>
                have h2 : ((0 : Int) < ((0 : Nat) : Int)) = False := by simp
                have hsn : wellL none (n.names.take (0 + 1)) (n.kids.take (0 + 1)) = wellN k := by rw [hsn]; simp
                cases hwk : wellN k with
                | false =>
                  rw [hwk] at hkc hsn
                  rw [hno hsn]
                  simp only [go_sem, W_cond2, WO_guard3, WE_guard3, WQ_guard3, KB_n, KB_x, Nat.reduceBEq, Nat.reduceAdd, Nat.reduceLT, Nat.reduceLeDiff, Nat.reduceEqDiff, reduceIte, Int.reduceEq, reduceCtorEq, g1, g55, g56, g57, h1, natOf_nat, hy2, cells_s, ldA_1, hnm, h2, l3, hk2, hld, pub_cells, hkc, Nat.zero_add]
                  exact hbr _
                | true =>
                  rw [hwk] at hkc hsn
                  simp only [go_sem, W_cond2, WO_guard3, WE_guard3, WQ_guard3, KB_n, KB_x, Nat.reduceBEq, Nat.reduceAdd, Nat.reduceLT, Nat.reduceLeDiff, Nat.reduceEqDiff, reduceIte, Int.reduceEq, reduceCtorEq, g1, g55, g56, g57, h1, natOf_nat, hy2, cells_s, ldA_1, hnm, h2, l3, hk2, hld, pub_cells, hkc, hw1]
                  exact ⟨x - 1, by omega, 0 + 1, by omega, H, hsn, rfl⟩
              | succ i =>
                have h2 : ((0 : Int) < ((i + 1 : Nat) : Int)) = True := by simp only [eq_iff_iff, iff_true]; omega
                obtain ⟨z, hz⟩ : ∃ z, n.names[i]? = some z := ⟨_, List.getElem?_eq_getElem (by omega)⟩
                have hz2 : (n.names.map AV.s)[i]? = some (.s z) := by rw [List.getElem?_map, hz]; rfl
                have hsb : IntKind.i64.wrap (((i + 1 : Nat) : Int) - 1) = (i : Int) := by
                  rw [show ((i + 1 : Nat) : Int) - 1 = (i : Int) by omega]; exact wrap_nat (by omega)
                rw [getLast_take hz] at hsn
                have hsn : wellL none (n.names.take (i + 1 + 1)) (n.kids.take (i + 1 + 1)) = (ltN z y && wellN k) := by rw [hsn]; simp
                have hle : (ltN y z || beqN y z) = !ltN z y := ltN_total y z
                cases hzy : ltN z y with
                | false =>
                  rw [hzy] at hle hsn
                  rw [hno hsn]
                  simp only [go_sem, W_cond2, WO_guard3, WE_guard3, WQ_guard3, KB_n, KB_x, Nat.reduceBEq, Nat.reduceAdd, Nat.reduceLT, Nat.reduceLeDiff, Nat.reduceEqDiff, reduceIte, Int.reduceEq, reduceCtorEq, g1, g55, g56, g57, h1, natOf_nat, hy2, cells_s, ldA_1, hnm, h2, l2, hsb, hz2, bs_leq, hle, Nat.zero_add]
                  exact hbr _
                | true =>
                  rw [hzy] at hle hsn
                  cases hwk : wellN k with
                  | false =>
                    rw [hwk] at hkc hsn
                    rw [hno hsn]
                    simp only [go_sem, W_cond2, WO_guard3, WE_guard3, WQ_guard3, KB_n, KB_x, Nat.reduceBEq, Nat.reduceAdd, Nat.reduceLT, Nat.reduceLeDiff, Nat.reduceEqDiff, reduceIte, Int.reduceEq, reduceCtorEq, g1, g55, g56, g57, h1, natOf_nat, hy2, cells_s, ldA_1, hnm, h2, l2, hsb, hz2, bs_leq, hle, l3, hk2, hld, pub_cells, hkc, Nat.zero_add]
                    exact hbr _
                  | true =>
                    rw [hwk] at hkc hsn
                    simp only [go_sem, W_cond2, WO_guard3, WE_guard3, WQ_guard3, KB_n, KB_x, Nat.reduceBEq, Nat.reduceAdd, Nat.reduceLT, Nat.reduceLeDiff, Nat.reduceEqDiff, reduceIte, Int.reduceEq, reduceCtorEq, g1, g55, g56, g57, h1, natOf_nat, hy2, cells_s, ldA_1, hnm, h2, l2, hsb, hz2, bs_leq, hle, l3, hk2, hld, pub_cells, hkc, hw1, Nat.zero_add]
                    exact ⟨x - 1, by omega, i + 1 + 1, by omega, H, hsn, rfl⟩
            · have h1 : ((i : Int) < (n.names.length : Int)) = False := by simp only [eq_iff_iff, iff_false]; omega
              rw [List.take_of_length_le (by omega), List.take_of_length_le (by omega)] at hwl
              rw [hwl]
              simp only [go_sem, W_cond2, WO_guard3, WE_guard3, WQ_guard3, KB_n, KB_x, Nat.reduceBEq, Nat.reduceAdd, Nat.reduceLT, Nat.reduceLeDiff, Nat.reduceEqDiff, reduceIte, Int.reduceEq, reduceCtorEq, g1, g55, g56, g57, h1]
              exact hbr _
          · simp only [go_sem, W_cond2, WO_guard3, WE_guard3, WQ_guard3, KB_n, KB_x, Nat.reduceBEq, Nat.reduceAdd, Nat.reduceLT, Nat.reduceLeDiff, Nat.reduceEqDiff, reduceIte, Int.reduceEq, reduceCtorEq]
            exact ⟨0, by omega, H1, by simp [wellL], rfl⟩
        · have f2 : ((n.names.length : Int) ≠ (n.kids.length : Int)) = True := by simp only [ne_eq, eq_iff_iff, iff_true]; omega
          rw [decide_eq_true d1, decide_eq_false d2]
          simp only [c_ftree_Well, go_sem, W_cond2, WO_guard3, WE_guard3, WQ_guard3, KB_n, KB_x, Nat.reduceBEq, Nat.reduceAdd, Nat.reduceLT, Nat.reduceLeDiff, Nat.reduceEqDiff, reduceIte, Int.reduceEq, reduceCtorEq, cells4, hq, hm, l0, l1, l2, l3, Nat.zero_add, e1, e2, e3, List.length_map, f1, f2]
          exact hbr _
      · have f1 : (n.text ≠ []) = True := by simp [d1]
        rw [decide_eq_false d1]
        simp only [c_ftree_Well, go_sem, W_cond2, WO_guard3, WE_guard3, WQ_guard3, KB_n, KB_x, Nat.reduceBEq, Nat.reduceAdd, Nat.reduceLT, Nat.reduceLeDiff, Nat.reduceEqDiff, reduceIte, Int.reduceEq, reduceCtorEq, cells4, hq, hm, l0, l1, l2, l3, Nat.zero_add, e1, e2, e3, List.length_map, f1]
        exact hbr _
    · rw [if_neg c2]
      have e1 : ((n.kind : Int) = 1) = False := by simp only [eq_iff_iff, iff_false]; omega
      have e2 : ((n.kind : Int) = 3) = False := by simp only [eq_iff_iff, iff_false]; omega
      have e3 : ((n.kind : Int) = 2) = False := by simp only [eq_iff_iff, iff_false]; omega
      simp only [c_ftree_Well, go_sem, W_cond2, WO_guard3, WE_guard3, WQ_guard3, KB_n, KB_x, Nat.reduceBEq, Nat.reduceAdd, Nat.reduceLT, Nat.reduceLeDiff, Nat.reduceEqDiff, reduceIte, Int.reduceEq, reduceCtorEq, cells4, hq, hm, l0, Nat.zero_add, e1, e2, e3]
      exact hbr _
end Go.Proofs.YtkkfjoiffcmpeaaDoor

/-
  slices.Clone of texts, over a heap.
-/
set_option maxRecDepth 100000
set_option linter.unusedSimpArgs false
set_option linter.constructorNameAsVariable false
namespace Go.Proofs.YtkkfjoiffcmpeaaDoor
open Go.Proofs.YtkkfjoiffcmpeaaDoor.Am
theorem le11s : (1 ≤ 1) = True := by simp
theorem clone_nil (s : St) : (lim prog).call f_slices_Clone_string_string [tx []] s = some (.ws true 1 [], { s with lo := min s.lo s.nb }) := by
  rw [lim_call]
  unfold callF
  rw [p_slices_Clone_string_string]
  have h1 : wkZ c_slices_Clone_string_string.cin [tx []] = [.ws false 1 []] := by
    simp [c_slices_Clone_string_string, wkZ, wk, wkM]
  have h2 : both c_slices_Clone_string_string [.ws false 1 []] = some (.ws true 1 []) := by rfl
  have h3 : Nat.ble [tx []].length c_slices_Clone_string_string.ntmps = true := rfl
  have h4 : c_slices_Clone_string_string.prim = none := rfl
  simp only [h4, h3, h1, h2]
theorem clone_cons (x : List Nat) (L : List (List Nat)) (hL : (x :: L).length < 2 ^ 38) (s : St) :
    (lim prog).call f_slices_Clone_string_string [tx (x :: L)] s = some (.sl 1 ((x :: L).map .s) (.tok s.nt 0), { s.newTok (x :: L).length (some 9) with lo := min s.lo s.nb }) := by
  have h1 : wkZ c_slices_Clone_string_string.cin [tx (x :: L)] = [tx (x :: L)] := by
    have := (told_tx (x :: L)).wk
    simp only [c_slices_Clone_string_string, wkZ, this]
  obtain ⟨r, s', hc, rfl, rfl⟩ := fn_K (t := 2) (s := s) (args := [tx (x :: L)]) (Post := fun r s' => r = .sl 1 ((x :: L).map .s) (.tok s.nt 0) ∧ s' = { s.newTok (x :: L).length (some 9) with lo := min s.lo s.nb }) p_slices_Clone_string_string rfl rfl rfl (by rw [h1]; rfl) (by
    rw [h1]
    have heq : eqS (tx (x :: L)) .nsl = some false := rfl
    have ha : appA s.enter 1 9 (.sl 1 [] .full) (tx (x :: L)) = some (.sl 1 ((x :: L).map .s) (.tok s.nt 0), s.enter.newTok (x :: L).length (some 9)) := by
      simp only [tx, List.map_cons, appA, elems, if_true, List.nil_append, List.length_nil, Nat.zero_add, true_and]
      rw [if_pos (by simpa using hL)]
      simp [St.enter]
    have hal : allLen 1 [] = true := rfl
    simp only [c_slices_Clone_string_string, go_sem, W_cond, WO_guard2, WE_guard2, WQ_guard2, W_regD, KB_n, KB_x, Nat.reduceBEq, Nat.reduceAdd, Nat.reduceLT, Nat.reduceLeDiff, Nat.reduceEqDiff, reduceIte, Int.reduceEq, reduceCtorEq, heq, hal, le11s, ha, KK_n, KK_r]
    rfl)
  exact hc
theorem clone_hp {s0 s : St} {n : En} {R : List RA} {B : List (Nat × Box)} (H : Hp s0 s n R B) (L : List (List Nat)) (hL : L.length < 2 ^ 38) :
    ∃ r s', (lim prog).call f_slices_Clone_string_string [tx L] s = some (r, s') ∧ Hp s0 s' n (⟨1, 9, r, L.map .s, true⟩ :: R) B ∧ s'.nb = s.nb := by
  have hlo := H.lo
  have h1 := H.over.lo
  have h2 := H.over.nb
  cases L with
  | nil =>
    refine ⟨_, _, clone_nil s, ?_, rfl⟩
    exact (H.setLo (m := min s.lo s.nb) (by omega) (by omega)).addFull 1 9 true .ws
  | cons x L =>
    refine ⟨_, _, clone_cons x L hL s, ?_, rfl⟩
    have := H.newTok 1 9 ((x :: L).map .s)
    rw [List.length_map] at this
    exact this.setLo (m := min s.lo s.nb) (by omega) (by omega)
end Go.Proofs.YtkkfjoiffcmpeaaDoor

/-
  ftree.May, own, slices.BinarySearch.
-/
set_option maxRecDepth 100000
set_option maxHeartbeats 2000000
set_option linter.unusedSimpArgs false
set_option linter.constructorNameAsVariable false
namespace Go.Proofs.YtkkfjoiffcmpeaaDoor
open Go.Proofs.YtkkfjoiffcmpeaaDoor.Am
attribute [local irreducible] W WO WE WQ WD Tr.get Tr.set
def mayN (n : ND) : Bool := decide (n.kind = 2) && (wellN n && (decide (nodesN n ≤ 1024) && decide (deepN n ≤ 24)))
theorem may_ok (n : ND) (ho : n.Ok) (hb : nodesN n < 2 ^ 62) (s : St) (hw : Wf s) : (lim prog).call f_ftree_May [.agg n.cells] s = some (.b (mayN n), s) := by
  refine fn_W p_ftree_May rfl rfl ?_
  have H1 := (Hp.begin hw).new (.cells 25 n.cells)
  generalize hq : s.enter.new (.cells 25 n.cells) = q at H1
  generalize hm : s.enter.nb = m at H1
  have l0 := H1.ld 0 (off := 0) (v := .i .u8 (n.kind : Nat)) rfl rfl
  have l1 := H1.ldw 0 (m := 4) rfl rfl
  have hz0 : wkZ c_ftree_May.cin [.agg n.cells] = [.agg n.cells] := by simp [c_ftree_May, wkZ, wk, ND.cells]
  rw [hz0]
  have h1 := well_ok n ho q H1.wf
  have h2 := nodes_ok n hb q H1.wf
  have h3 := depth_ok n hb q H1.wf
  have hbr : ∀ b, KR s [.id] (.b b) (some ([.b b], q)) := fun b => KR_some H1.over rfl rfl
  unfold mayN
  by_cases c1 : n.kind = 2
  · have e1 : ((n.kind : Int) = 2) = True := by simp only [eq_iff_iff, iff_true]; omega
    rw [decide_eq_true c1]
    cases c2 : wellN n with
    | false =>
      rw [c2] at h1
      simp only [c_ftree_May, go_sem, W_cond2, WO_guard3, WE_guard3, WQ_guard3, KB_n, KB_x, Nat.reduceBEq, Nat.reduceAdd, Nat.reduceLT, Nat.reduceLeDiff, Nat.reduceEqDiff, reduceIte, Int.reduceEq, reduceCtorEq, cells4, hq, hm, l0, l1, Nat.zero_add, e1, pub_cells, h1]
      exact hbr _
    | true =>
      rw [c2] at h1
      by_cases c3 : nodesN n ≤ 1024
      · have e3 : (((nodesN n : Nat) : Int) ≤ 1024) = True := by simp only [eq_iff_iff, iff_true]; omega
        rw [decide_eq_true c3]
        by_cases c4 : deepN n ≤ 24
        · have e4 : (((deepN n : Nat) : Int) ≤ 24) = True := by simp only [eq_iff_iff, iff_true]; omega
          rw [decide_eq_true c4]
          simp only [c_ftree_May, go_sem, W_cond2, WO_guard3, WE_guard3, WQ_guard3, KB_n, KB_x, Nat.reduceBEq, Nat.reduceAdd, Nat.reduceLT, Nat.reduceLeDiff, Nat.reduceEqDiff, reduceIte, Int.reduceEq, reduceCtorEq, cells4, hq, hm, l0, l1, Nat.zero_add, e1, pub_cells, h1, h2, h3, e3, e4]
          exact hbr _
        · have e4 : (((deepN n : Nat) : Int) ≤ 24) = False := by simp only [eq_iff_iff, iff_false]; omega
          rw [decide_eq_false c4]
          simp only [c_ftree_May, go_sem, W_cond2, WO_guard3, WE_guard3, WQ_guard3, KB_n, KB_x, Nat.reduceBEq, Nat.reduceAdd, Nat.reduceLT, Nat.reduceLeDiff, Nat.reduceEqDiff, reduceIte, Int.reduceEq, reduceCtorEq, cells4, hq, hm, l0, l1, Nat.zero_add, e1, pub_cells, h1, h2, h3, e3, e4]
          exact hbr _
      · have e3 : (((nodesN n : Nat) : Int) ≤ 1024) = False := by simp only [eq_iff_iff, iff_false]; omega
        rw [decide_eq_false c3]
        simp only [c_ftree_May, go_sem, W_cond2, WO_guard3, WE_guard3, WQ_guard3, KB_n, KB_x, Nat.reduceBEq, Nat.reduceAdd, Nat.reduceLT, Nat.reduceLeDiff, Nat.reduceEqDiff, reduceIte, Int.reduceEq, reduceCtorEq, cells4, hq, hm, l0, l1, Nat.zero_add, e1, pub_cells, h1, h2, h3, e3]
        exact hbr _
  · have e1 : ((n.kind : Int) = 2) = False := by simp only [eq_iff_iff, iff_false]; omega
    rw [decide_eq_false c1]
    simp only [c_ftree_May, go_sem, W_cond2, WO_guard3, WE_guard3, WQ_guard3, KB_n, KB_x, Nat.reduceBEq, Nat.reduceAdd, Nat.reduceLT, Nat.reduceLeDiff, Nat.reduceEqDiff, reduceIte, Int.reduceEq, reduceCtorEq, cells4, hq, hm, l0, l1, Nat.zero_add, e1]
    exact hbr _
theorem refs_goN (l : List ND) : AV.refs.go (l.map ND.av) = false := by
  induction l with
  | nil => rfl
  | cons a l il => simp only [List.map_cons, AV.refs.go, av_refs, il, Bool.or_self]
theorem le14 : (1 ≤ 4) = True := by simp
theorem al4 (k : ND) : allLen 4 [AV.agg k.cells] = true := rfl
theorem wkM_av (c : CT) (l : List ND) (hc : ∀ k ∈ l, wk c k.av = k.av) : wkM c (l.map ND.av) = l.map ND.av := by
  induction l with
  | nil => rfl
  | cons a l ih => simp only [List.map_cons, wkM, hc a (by simp), ih fun k hk => hc k (by simp [hk])]
theorem own_ok : ∀ n : ND, n.Ok → ∀ s, Wf s → (lim prog).call f_ftree_own [.agg n.cells] s = some (.agg n.cells, s) := by
  refine ND.ind fun n ih ho s hw => ?_
  refine fn_W p_ftree_own rfl rfl ?_
  have H0 := (Hp.begin hw).new (.cells 25 n.cells)
  generalize hq : s.enter.new (.cells 25 n.cells) = q at H0
  generalize hm : s.enter.nb = m at H0
  have H1 := H0.new (.cells 25 [.i .u8 0, .s [], .nsl, .nsl])
  generalize hq1 : q.new (.cells 25 [.i .u8 0, .s [], .nsl, .nsl]) = q1 at H1
  generalize hm1 : q.nb = m1 at H1
  have l1 := H1.ld 1 (off := 2) (v := tx n.names) rfl rfl
  have hn := ho.names.2
  have hk := ho.kids.2
  obtain ⟨r, q2, d2, H2, _⟩ := clone_hp H1 n.names (by omega)
  obtain ⟨q3, d3, H3, _⟩ := H2.st 1 (off := 2) (v := r) rfl (by simp [ND.cells]) ⟨(H2.rcells 0 rfl).1, (H2.rcells 0 rfl).2.1⟩
  have l2 := H3.ld 1 (off := 3) (v := .ws false 4 (n.kids.map ND.av)) rfl rfl
  have hz0 : wkZ c_ftree_own.cin [.agg n.cells] = [.agg n.cells] := by simp [c_ftree_own, wkZ, wk, ND.cells]
  rw [hz0]
  simp only [c_ftree_own, go_sem, W_cond2, WO_guard3, WE_guard3, WQ_guard3, KB_n, KB_x, Nat.reduceBEq, Nat.reduceAdd, Nat.reduceLT, Nat.reduceLeDiff, Nat.reduceEqDiff, reduceIte, Int.reduceEq, reduceCtorEq, cells4, hq, hm, hq1, hm1, l1, d2, d3, l2, Nat.zero_add, List.length_map]
  refine W_loop (fun x e q => ∃ (i : Nat) (a : AV), i + x = n.kids.length ∧ Hp s q s.en [⟨4, 25, a, (n.kids.take i).map ND.av, true⟩, ⟨1, 9, r, n.names.map .s, true⟩] [(m1, .cells 25 [.i .u8 0, .s [], .nsl, .nsl]), (m, .cells 25 [.i .u8 (n.kind : Nat), .s n.text, r, .ws false 4 (n.kids.map ND.av)])] ∧
    e.get 1 = .p m 0 ∧ e.get 2 = .p m1 0 ∧ e.get 3 = a ∧ e.get 11 = .ws false 4 (n.kids.map ND.av) ∧ e.get 12 = .i .i64 (n.kids.length : Nat) ∧ e.get 13 = .i .i64 (i : Nat)) ?_ n.kids.length _ _ ?_
  · rintro x e q' ⟨i, a, hi, H, g1, g2, g3, g11, g12, g13⟩
    by_cases h : i < n.kids.length
    · have e1 : ((i : Int) < (n.kids.length : Int)) = True := by simp only [eq_iff_iff, iff_true]; omega
      obtain ⟨k, hk1⟩ : ∃ k, n.kids[i]? = some k := ⟨_, List.getElem?_eq_getElem h⟩
      have hmem : k ∈ n.kids := List.mem_of_getElem? hk1
      have hget := kid_get hk1
      have H4 := H.new (.cells 25 [.i .u8 0, .s [], .nsl, .nsl])
      generalize hq4 : q'.new (.cells 25 [.i .u8 0, .s [], .nsl, .nsl]) = q4 at H4
      generalize hj : q'.nb = j at H4
      obtain ⟨q5, d5, H5, _⟩ := H4.stw 0 (v := .agg k.cells) (m := 4) rfl rfl ⟨cells4 k, ones4 k⟩
      have l3 := H5.ldw 0 (m := 4) rfl rfl
      have hc := ih k hmem (ho.kids.1 k hmem) q5 H5.wf
      obtain ⟨a', q6, d6, H6, _⟩ := H5.app 0 (y := .sl 4 [.agg k.cells] .full) (ys := [.agg k.cells]) rfl (by simp [elems, St.ok]) (by simp [List.length_take]; omega)
      have htk : (n.kids.take (i + 1)).map ND.av = (n.kids.take i).map ND.av ++ [.agg k.cells] := by
        rw [List.take_add_one, hk1]; simp [ND.av_eq]
      have hw1 := wrap_succ (show i + 1 < 2 ^ 63 by omega)
      have hld : ldA q' true 4 (.ep k.cells 0 .shut) = some (.agg k.cells) := rfl
      simp only [go_sem, W_cond2, WO_guard3, WE_guard3, WQ_guard3, KB_n, KB_x, Nat.reduceBEq, Nat.reduceAdd, Nat.reduceLT, Nat.reduceLeDiff, Nat.reduceEqDiff, reduceIte, Int.reduceEq, reduceCtorEq, g1, g2, g3, g11, g12, g13, e1, natOf_nat, hget, hld, hq4, hj, d5, l3, hc, pub_cells, al4, le11s, le14, d6, hw1]
      refine ⟨x - 1, by omega, i + 1, a', by omega, ?_, rfl, rfl⟩
      rw [htk]
      exact H6.sel [0, 1] [1, 2] (by simp) (by simp)
    · have e1 : ((i : Int) < (n.kids.length : Int)) = False := by simp only [eq_iff_iff, iff_false]; omega
      obtain rfl : i = n.kids.length := by omega
      obtain ⟨q4, d4, H4, _⟩ := H.st 1 (off := 3) (v := a) rfl (by simp) ⟨(H.rcells 0 rfl).1, (H.rcells 0 rfl).2.1⟩
      have l5 : ldA q4 true 4 (.p m 0) = some (.agg [.i .u8 (n.kind : Nat), .s n.text, r, a]) := H4.ldw 1 (m := 4) rfl rfl
      obtain ⟨r', q5, d5, t5, H5, _⟩ := H4.pub 1 rfl
      obtain ⟨a', q6, d6, t6, H6, _⟩ := H5.pub 0 rfl
      obtain ⟨q7, d7, H7, _⟩ := H6.stw 0 (v := .agg [.i .u8 (n.kind : Nat), .s n.text, r', a']) (m := 4) rfl rfl ⟨rfl, by simp only [cl_agg, Am.ones, t5.ones, t6.ones]⟩
      have l7 := H7.ldw 0 (m := 4) rfl rfl
      simp only [go_sem, W_cond2, WO_guard3, WE_guard3, WQ_guard3, KB_n, KB_x, Nat.reduceBEq, Nat.reduceAdd, Nat.reduceLT, Nat.reduceLeDiff, Nat.reduceEqDiff, reduceIte, Int.reduceEq, reduceCtorEq, g1, g2, g3, g11, g12, g13, e1, d4, l5, d5, d6, d7, l7, t5.frz, t6.frz, Nat.zero_add]
      refine KR_some H7.over ?_ ?_
      · simp only [tupOf, AV.refs, AV.refs.go, t5.refs (refs_goS _), t6.refs (refs_goN _), Bool.or_self]
      · rw [List.take_length] at t6
        have hc : ∀ (c : CT), ∀ k ∈ n.kids, wk (.agg [.id, .id, .sl 1 .id, .sl 4 c]) k.av = k.av := fun c k _ => by
          rw [ND.av_eq]; simp [wk, wkZ, ND.cells]
        simp only [tupOf, wkZ, wk, t5.wk (wkM_s _), t6.wk (wkM_av _ _ (hc _))]
        rfl
  · simp only [go_sem, W_cond2, WO_guard3, WE_guard3, WQ_guard3, KB_n, KB_x, Nat.reduceBEq, Nat.reduceAdd, Nat.reduceLT, Nat.reduceLeDiff, Nat.reduceEqDiff, reduceIte, Int.reduceEq, reduceCtorEq]
    exact ⟨0, .nsl, by omega, H3.addFull 4 25 true .nil, rfl, rfl⟩
end Go.Proofs.YtkkfjoiffcmpeaaDoor

/-
  The order of places: plain facts.
-/
set_option maxRecDepth 100000
namespace Go.Proofs.YtkkfjoiffcmpeaaDoor
open Go.Proofs.YtkkfjoiffcmpeaaDoor.Am
theorem ltN_trans : ∀ {a b c : List Nat}, ltN a b = true → ltN b c = true → ltN a c = true
  | [], [], _, h, _ => by simp [ltN] at h
  | _ :: _, [], _, h, _ => by simp [ltN] at h
  | _, _ :: _, [], _, h => by simp [ltN] at h
  | [], _ :: _, _ :: _, _, _ => rfl
  | a :: x, b :: y, c :: z, h1, h2 => by
    simp only [ltN, Bool.or_eq_true, Bool.and_eq_true, Nat.blt_eq, Nat.beq_eq] at h1 h2 ⊢
    rcases h1 with h1 | ⟨h1, h3⟩
    · rcases h2 with h2 | ⟨h2, _⟩
      · left; omega
      · left; omega
    · rcases h2 with h2 | ⟨h2, h4⟩
      · left; omega
      · right; exact ⟨by omega, ltN_trans h3 h4⟩
end Go.Proofs.YtkkfjoiffcmpeaaDoor

/-
  slices.BinarySearch of texts that rise.
-/
set_option maxRecDepth 100000
set_option maxHeartbeats 2000000
set_option linter.unusedSimpArgs false
set_option linter.constructorNameAsVariable false
namespace Go.Proofs.YtkkfjoiffcmpeaaDoor
open Go.Proofs.YtkkfjoiffcmpeaaDoor.Am
attribute [local irreducible] W WO WE WQ WD Tr.get Tr.set
theorem nan1_ok (a : List Nat) (s : St) : (lim prog).call f_cmp_isNaN_string [.s a] s = some (.b false, s) := by
  refine fn_W p_cmp_isNaN_string rfl rfl ?_
  have e1 : (a ≠ a) = False := by simp
  simp only [c_cmp_isNaN_string, go_sem, W_cond2, WO_guard3, WE_guard3, WQ_guard3, KB_n, KB_x, Nat.reduceBEq, Nat.reduceAdd, Nat.reduceLT, Nat.reduceLeDiff, Nat.reduceEqDiff, reduceIte, Int.reduceEq, reduceCtorEq, e1]
  exact KR_some (Over.enter s) rfl rfl
theorem nan2_ok (a : List Nat) (s : St) : (lim prog).call f_slices_isNaN_string [.s a] s = some (.b false, s) := by
  refine fn_W p_slices_isNaN_string rfl rfl ?_
  have e1 : (a ≠ a) = False := by simp
  simp only [c_slices_isNaN_string, go_sem, W_cond2, WO_guard3, WE_guard3, WQ_guard3, KB_n, KB_x, Nat.reduceBEq, Nat.reduceAdd, Nat.reduceLT, Nat.reduceLeDiff, Nat.reduceEqDiff, reduceIte, Int.reduceEq, reduceCtorEq, e1]
  exact KR_some (Over.enter s) rfl rfl
theorem cless_ok (a b : List Nat) (s : St) : (lim prog).call f_cmp_Less_string [.s a, .s b] s = some (.b (ltN a b), s) := by
  refine fn_W p_cmp_Less_string rfl rfl ?_
  simp only [c_cmp_Less_string, go_sem, W_cond2, WO_guard3, WE_guard3, WQ_guard3, KB_n, KB_x, Nat.reduceBEq, Nat.reduceAdd, Nat.reduceLT, Nat.reduceLeDiff, Nat.reduceEqDiff, reduceIte, Int.reduceEq, reduceCtorEq, nan1_ok]
  exact KR_some (Over.enter s) rfl rfl
def Asc (L : List (List Nat)) : Prop := ∀ {i j : Nat} {a b : List Nat}, i < j → L[i]? = some a → L[j]? = some b → ltN a b = true
structure Pos (L : List (List Nat)) (x : List Nat) (p : Nat) : Prop where
  le : p ≤ L.length
  lo : ∀ {k : Nat} {y : List Nat}, k < p → L[k]? = some y → ltN y x = true
  hi : ∀ {k : Nat} {y : List Nat}, p ≤ k → L[k]? = some y → ltN y x = false
theorem shr1 (a : Nat) : Am.binOp .shr (.i .u64 (a : Int)) (.i .u64 1) = some (.i .u64 ((a / 2 : Nat) : Int)) := by
  have : ((a : Int).fdiv 2) = ((a / 2 : Nat) : Int) := by
    rw [Int.fdiv_eq_ediv_of_nonneg _ (by omega)]; omega
  simp [Am.binOp, IntKind.bits]
  exact this
theorem wrapU {a : Nat} (h : a < 2 ^ 64) : IntKind.u64.wrap (a : Int) = (a : Int) := by
  have : ((a : Int) % 2 ^ 64) = (a : Int) := by omega
  simp only [IntKind.wrap, IntKind.signed, IntKind.bits, this]
  rfl
theorem cut_ex (f : List Nat → Bool) : ∀ L : List (List Nat), ∃ p, p ≤ L.length ∧ (∀ {k : Nat} {y : List Nat}, k < p → L[k]? = some y → f y = true) ∧ ∀ {y : List Nat}, L[p]? = some y → f y = false
  | [] => ⟨0, by simp, fun h => by omega, fun h => by simp at h⟩
  | a :: L => by
    cases ha : f a with
    | false => exact ⟨0, by simp, fun h => by omega, fun h => by simp only [List.getElem?_cons_zero, Option.some.injEq] at h; rw [← h]; exact ha⟩
    | true =>
      obtain ⟨p, h1, h2, h3⟩ := cut_ex f L
      refine ⟨p + 1, by simp; omega, fun {k y} hk hy => ?_, fun h => h3 (by simpa using h)⟩
      cases k with
      | zero => simp only [List.getElem?_cons_zero, Option.some.injEq] at hy; rw [← hy]; exact ha
      | succ k => exact h2 (k := k) (by omega) (by simpa using hy)
theorem pos_ex {L : List (List Nat)} (hasc : Asc L) (x : List Nat) : ∃ p, Pos L x p := by
  obtain ⟨p, h1, h2, h3⟩ := cut_ex (fun y => ltN y x) L
  refine ⟨p, h1, fun hk hy => h2 hk hy, @fun k y hk hy => ?_⟩
  by_cases hkp : k = p
  · subst hkp; exact h3 hy
  · have hlt : k < L.length := (List.getElem?_eq_some_iff.1 hy).1
    have hpk : p < k := by omega
    obtain ⟨z, hz⟩ : ∃ z, L[p]? = some z := ⟨_, List.getElem?_eq_getElem (show p < L.length by omega)⟩
    have hzy := hasc hpk hz hy
    rw [Bool.eq_false_iff]
    intro hyx
    have := ltN_trans hzy hyx
    rw [h3 hz] at this
    cases this
theorem bsearch_ok (L : List (List Nat)) (x : List Nat) (hasc : Asc L) (hl : L.length < 2 ^ 62) (s : St) : ∃ p, Pos L x p ∧ (lim prog).call f_slices_BinarySearch_string_string [tx L, .s x] s = some (.tup [.i .i64 (p : Nat), .b (decide (L[p]? = some x))], s) := by
  have hex : ∃ p, Pos L x p := pos_ex hasc x
  obtain ⟨p, hp⟩ := hex
  refine ⟨p, hp, fn_W p_slices_BinarySearch_string_string rfl rfl ?_⟩
  simp only [c_slices_BinarySearch_string_string, go_sem, W_cond2, WO_guard3, WE_guard3, WQ_guard3, KB_n, KB_x, Nat.reduceBEq, Nat.reduceAdd, Nat.reduceLT, Nat.reduceLeDiff, Nat.reduceEqDiff, reduceIte, Int.reduceEq, reduceCtorEq, List.length_map]
  refine W_loop (fun n e q => q = s.enter ∧ ∃ i j : Nat, i + n = j ∧ i ≤ p ∧ p ≤ j ∧ j ≤ L.length ∧ e.get 0 = tx L ∧ e.get 1 = .s x ∧ e.get 6 = .i .i64 (L.length : Nat) ∧ e.get 7 = .i .i64 (i : Nat) ∧ e.get 8 = .i .i64 (j : Nat)) ?_ L.length _ _ ?_
  · rintro n e q ⟨rfl, i, j, hij, hip, hpj, hj, g0, g1, g6, g7, g8⟩
    by_cases h : i < j
    · have e1 : ((i : Int) < (j : Int)) = True := by simp only [eq_iff_iff, iff_true]; omega
      have hs1 : IntKind.i64.wrap ((i : Int) + (j : Int)) = ((i + j : Nat) : Int) := by
        rw [show (i : Int) + (j : Int) = ((i + j : Nat) : Int) by omega]; exact wrap_nat (by omega)
      have hs2 := wrapU (show i + j < 2 ^ 64 by omega)
      have hs3 := wrap_nat (show (i + j) / 2 < 2 ^ 63 by omega)
      obtain ⟨m, hm⟩ : ∃ m, (i + j) / 2 = m := ⟨_, rfl⟩
      rw [hm] at hs3
      obtain ⟨y, hy⟩ : ∃ y, L[m]? = some y := ⟨_, List.getElem?_eq_getElem (by omega)⟩
      have hy2 : (L.map AV.s)[m]? = some (.s y) := by rw [List.getElem?_map, hy]; rfl
      have hw1 := wrap_succ (show m + 1 < 2 ^ 63 by omega)
      have hsh := shr1 (i + j)
      rw [hm] at hsh
      cases hlt : ltN y x with
      | true =>
        have : m < p := by
          refine Nat.lt_of_not_le fun hh => ?_
          have := hp.hi hh hy
          rw [hlt] at this; cases this
        simp only [go_sem, W_cond2, WO_guard3, WE_guard3, WQ_guard3, KB_n, KB_x, Nat.reduceBEq, Nat.reduceAdd, Nat.reduceLT, Nat.reduceLeDiff, Nat.reduceEqDiff, reduceIte, Int.reduceEq, reduceCtorEq, g0, g1, g6, g7, g8, e1, hs1, hs2, hsh, hs3, natOf_nat, hy2, cells_s, ldA_1, cless_ok, hlt, hw1]
        exact ⟨j - (m + 1), by omega, m + 1, j, by omega, by omega, by omega, hj, rfl, rfl⟩
      | false =>
        have : p ≤ m := by
          refine Nat.le_of_not_lt fun hh => ?_
          have := hp.lo hh hy
          rw [hlt] at this; cases this
        simp only [go_sem, W_cond2, WO_guard3, WE_guard3, WQ_guard3, KB_n, KB_x, Nat.reduceBEq, Nat.reduceAdd, Nat.reduceLT, Nat.reduceLeDiff, Nat.reduceEqDiff, reduceIte, Int.reduceEq, reduceCtorEq, g0, g1, g6, g7, g8, e1, hs1, hs2, hsh, hs3, natOf_nat, hy2, cells_s, ldA_1, cless_ok, hlt]
        exact ⟨m - i, by omega, i, m, by omega, by omega, by omega, by omega, rfl, rfl⟩
    · have e1 : ((i : Int) < (j : Int)) = False := by simp only [eq_iff_iff, iff_false]; omega
      obtain rfl : i = p := by omega
      have hbr : ∀ b, KR s [.id, .id] (.tup [.i .i64 (i : Nat), .b b]) (some ([.i .i64 (i : Nat), .b b], s.enter)) := fun b => KR_some (Over.enter s) rfl rfl
      by_cases h2 : i < L.length
      · have e2 : ((i : Int) < (L.length : Int)) = True := by simp only [eq_iff_iff, iff_true]; omega
        obtain ⟨y, hy⟩ : ∃ y, L[i]? = some y := ⟨_, List.getElem?_eq_getElem h2⟩
        have hy2 : (L.map AV.s)[i]? = some (.s y) := by rw [List.getElem?_map, hy]; rfl
        by_cases h3 : y = x
        · have e3 : (y = x) = True := by simp [h3]
          rw [decide_eq_true (by rw [hy, h3] : L[i]? = some x)]
          simp only [go_sem, W_cond2, WO_guard3, WE_guard3, WQ_guard3, KB_n, KB_x, Nat.reduceBEq, Nat.reduceAdd, Nat.reduceLT, Nat.reduceLeDiff, Nat.reduceEqDiff, reduceIte, Int.reduceEq, reduceCtorEq, g0, g1, g6, g7, g8, e1, e2, natOf_nat, hy2, cells_s, ldA_1, e3]
          exact hbr _
        · have e3 : (y = x) = False := by simp [h3]
          rw [decide_eq_false (by rw [hy]; simpa using h3 : ¬ L[i]? = some x)]
          simp only [go_sem, W_cond2, WO_guard3, WE_guard3, WQ_guard3, KB_n, KB_x, Nat.reduceBEq, Nat.reduceAdd, Nat.reduceLT, Nat.reduceLeDiff, Nat.reduceEqDiff, reduceIte, Int.reduceEq, reduceCtorEq, g0, g1, g6, g7, g8, e1, e2, natOf_nat, hy2, cells_s, ldA_1, e3, nan2_ok]
          exact hbr _
      · have e2 : ((i : Int) < (L.length : Int)) = False := by simp only [eq_iff_iff, iff_false]; omega
        rw [decide_eq_false (by rw [List.getElem?_eq_none (by omega)]; simp : ¬ L[i]? = some x)]
        simp only [go_sem, W_cond2, WO_guard3, WE_guard3, WQ_guard3, KB_n, KB_x, Nat.reduceBEq, Nat.reduceAdd, Nat.reduceLT, Nat.reduceLeDiff, Nat.reduceEqDiff, reduceIte, Int.reduceEq, reduceCtorEq, g0, g1, g6, g7, g8, e1, e2]
        exact hbr _
  · simp only [go_sem, W_cond2, WO_guard3, WE_guard3, WQ_guard3, KB_n, KB_x, Nat.reduceBEq, Nat.reduceAdd, Nat.reduceLT, Nat.reduceLeDiff, Nat.reduceEqDiff, reduceIte, Int.reduceEq, reduceCtorEq]
    have := hp.le
    exact ⟨0, L.length, by omega, by omega, by omega, by omega, rfl, rfl⟩
end Go.Proofs.YtkkfjoiffcmpeaaDoor

/-
  ftree.find.
-/
set_option maxRecDepth 100000
set_option maxHeartbeats 2000000
set_option linter.unusedSimpArgs false
set_option linter.constructorNameAsVariable false
namespace Go.Proofs.YtkkfjoiffcmpeaaDoor
open Go.Proofs.YtkkfjoiffcmpeaaDoor.Am
theorem wellL_chain : ∀ (p : Option (List Nat)) (ns : List (List Nat)) (ks : List ND), ns.length = ks.length → wellL p ns ks = true →
    (∀ {i : Nat} {k : ND}, ks[i]? = some k → wellN k = true) ∧ (∀ {i : Nat} {s : List Nat}, ns[i]? = some s → nameP s = true) ∧ (∀ q, p = some q → ∀ {i : Nat} {s : List Nat}, ns[i]? = some s → ltN q s = true) ∧ Asc ns
  | p, [], [], _, _ => ⟨fun h => by simp at h, fun h => by simp at h, fun _ _ _ _ h => by simp at h, fun _ h => by simp at h⟩
  | p, a :: ns, b :: ks, hl, h => by
    simp only [wellL, Bool.and_eq_true] at h
    obtain ⟨h1, h2, h3, h4⟩ := h
    obtain ⟨k1, k2, k3, k4⟩ := wellL_chain (some a) ns ks (by simpa using hl) h4
    refine ⟨@fun i k hk => ?_, @fun i s hs => ?_, fun q hq => @fun i s hs => ?_, @fun i j x y hij hx hy => ?_⟩
    · cases i with
      | zero => simp only [List.getElem?_cons_zero, Option.some.injEq] at hk; rw [← hk]; exact h3
      | succ i => exact k1 (i := i) (by simpa using hk)
    · cases i with
      | zero => simp only [List.getElem?_cons_zero, Option.some.injEq] at hs; rw [← hs]; exact h1
      | succ i => exact k2 (i := i) (by simpa using hs)
    · subst hq
      have h2 : ltN q a = true := h2
      cases i with
      | zero => simp only [List.getElem?_cons_zero, Option.some.injEq] at hs; rw [← hs]; exact h2
      | succ i => exact ltN_trans h2 (k3 a rfl (i := i) (by simpa using hs))
    · cases j with
      | zero => omega
      | succ j =>
        have hy : ns[j]? = some y := by simpa using hy
        cases i with
        | zero => simp only [List.getElem?_cons_zero, Option.some.injEq] at hx; rw [← hx]; exact k3 a rfl hy
        | succ i => exact k4 (i := i) (j := j) (by omega) (by simpa using hx) hy
  | _, [], _ :: _, hl, _ => by simp at hl
  | _, _ :: _, [], hl, _ => by simp at hl
structure WellD (n : ND) : Prop where
  len : n.names.length = n.kids.length
  kid : ∀ {i : Nat} {k : ND}, n.kids[i]? = some k → wellN k = true
  name : ∀ {i : Nat} {s : List Nat}, n.names[i]? = some s → nameP s = true
  asc : Asc n.names
theorem wellD {n : ND} (h : wellN n = true) : WellD n := by
  rw [wellN_eq] at h
  split at h
  · simp only [Bool.and_eq_true, decide_eq_true_eq] at h
    obtain ⟨h1, h2, _⟩ := h
    have h2 : n.kids = [] := List.length_eq_zero_iff.1 h2
    exact ⟨by rw [h1, h2]; rfl, fun h => by rw [h2] at h; simp at h, fun h => by rw [h1] at h; simp at h, fun _ h => by rw [h1] at h; simp at h⟩
  · split at h
    · simp only [Bool.and_eq_true, decide_eq_true_eq] at h
      obtain ⟨_, h2, h3⟩ := h
      obtain ⟨k1, k2, _, k4⟩ := wellL_chain none _ _ h2 h3
      exact ⟨h2, k1, k2, k4⟩
    · cases h
def noN : ND := .mk 0 [] [] []
def kidN (n : ND) (s : List Nat) : Option ND := if n.kind = 2 then match n.names.findIdx? (· == s) with
  | some i => n.kids[i]?
  | none => none else none
def findP : ND → List (List Nat) → Option ND
  | n, [] => some n
  | n, s :: p => match kidN n s with
    | some k => findP k p
    | none => none
theorem ltN_irr : ∀ a : List Nat, ltN a a = false
  | [] => rfl
  | c :: a => by
    have : Nat.blt c c = false := by rw [Bool.eq_false_iff]; intro h; rw [Nat.blt_eq] at h; omega
    simp only [ltN, this, ltN_irr a, Bool.and_false, Bool.or_self]
theorem pos_idx {L : List (List Nat)} (hasc : Asc L) {x : List Nat} {p : Nat} (hp : Pos L x p) : L.findIdx? (· == x) = if L[p]? = some x then some p else none := by
  by_cases h : L[p]? = some x
  · rw [if_pos h, List.findIdx?_eq_some_iff_getElem]
    obtain ⟨h1, h2⟩ := List.getElem?_eq_some_iff.1 h
    refine ⟨h1, by simp [h2], fun j hj => ?_⟩
    have hlt := hp.lo hj (List.getElem?_eq_getElem (show j < L.length by omega))
    simp only [beq_iff_eq]
    intro he
    rw [he, ltN_irr] at hlt
    cases hlt
  · rw [if_neg h, List.findIdx?_eq_none_iff]
    intro y hy
    obtain ⟨j, hj, rfl⟩ := List.mem_iff_getElem.1 hy
    have hg := List.getElem?_eq_getElem hj
    simp only [beq_eq_false_iff_ne, ne_eq]
    intro he
    rw [he] at hg
    by_cases hjp : j < p
    · have := hp.lo hjp hg
      rw [ltN_irr] at this; cases this
    · by_cases hjp2 : j = p
      · subst hjp2; exact h hg
      · have hpj : p < j := by omega
        obtain ⟨z, hz⟩ : ∃ z, L[p]? = some z := ⟨_, List.getElem?_eq_getElem (show p < L.length by omega)⟩
        have h1 := hasc hpj hz hg
        have h2 := hp.hi (Nat.le_refl _) hz
        rw [h1] at h2; cases h2
end Go.Proofs.YtkkfjoiffcmpeaaDoor

/-
  ftree.find as a contract.
-/
set_option maxRecDepth 100000
set_option maxHeartbeats 2000000
set_option linter.unusedSimpArgs false
set_option linter.constructorNameAsVariable false
namespace Go.Proofs.YtkkfjoiffcmpeaaDoor
open Go.Proofs.YtkkfjoiffcmpeaaDoor.Am
attribute [local irreducible] W WO WE WQ WD Tr.get Tr.set
def foundN (o : Option ND) : ND := o.getD noN
theorem find_ok (n : ND) (ho : n.Ok) (hwl : wellN n = true) (pl : List (List Nat)) (hl : pl.length < 2 ^ 62) (s : St) (hw : Wf s) :
    (lim prog).call f_ftree_find [.agg n.cells, tx pl] s = some (.tup [.agg (foundN (findP n pl)).cells, .b (findP n pl).isSome], s) := by
  refine fn_W p_ftree_find rfl rfl ?_
  have H0 := (Hp.begin hw).new (.cells 25 n.cells)
  generalize hq : s.enter.new (.cells 25 n.cells) = q at H0
  generalize hm : s.enter.nb = m at H0
  have H1 := H0.new (.cells 25 [.i .u8 0, .s [], .nsl, .nsl])
  generalize hq1 : q.new (.cells 25 [.i .u8 0, .s [], .nsl, .nsl]) = q1 at H1
  generalize hm1 : q.nb = m1 at H1
  have hz0 : wkZ c_ftree_find.cin [.agg n.cells, tx pl] = [.agg n.cells, tx pl] := by simp [c_ftree_find, wkZ, wk, ND.cells]
  rw [hz0]
  simp only [c_ftree_find, go_sem, W_cond2, WO_guard3, WE_guard3, WQ_guard3, KB_n, KB_x, Nat.reduceBEq, Nat.reduceAdd, Nat.reduceLT, Nat.reduceLeDiff, Nat.reduceEqDiff, reduceIte, Int.reduceEq, reduceCtorEq, cells4, hq, hm, hq1, hm1, List.length_map]
  refine W_loop (fun x e q => ∃ (i : Nat) (c : ND), i + x = pl.length ∧ c.Ok ∧ wellN c = true ∧ findP n pl = findP c (pl.drop i) ∧ Hp s q s.en [] [(m1, .cells 25 [.i .u8 0, .s [], .nsl, .nsl]), (m, .cells 25 c.cells)] ∧
    e.get 2 = .p m 0 ∧ e.get 4 = .p m1 0 ∧ e.get 10 = tx pl ∧ e.get 11 = .i .i64 (pl.length : Nat) ∧ e.get 12 = .i .i64 (i : Nat)) ?_ pl.length _ _ ?_
  · rintro x e q' ⟨i, c, hi, hco, hcw, hf, H, g2, g4, g10, g11, g12⟩
    have l0 := H.ld 1 (off := 0) (v := .i .u8 (c.kind : Nat)) rfl rfl
    have l2 := H.ld 1 (off := 2) (v := tx c.names) rfl rfl
    have l3 := H.ld 1 (off := 3) (v := .ws false 4 (c.kids.map ND.av)) rfl rfl
    by_cases h : i < pl.length
    · have e1 : ((i : Int) < (pl.length : Int)) = True := by simp only [eq_iff_iff, iff_true]; omega
      obtain ⟨y, hy⟩ : ∃ y, pl[i]? = some y := ⟨_, List.getElem?_eq_getElem h⟩
      have hy2 : (pl.map AV.s)[i]? = some (.s y) := by rw [List.getElem?_map, hy]; rfl
      have hd : pl.drop i = y :: pl.drop (i + 1) := by
        rw [List.drop_eq_getElem_cons h]
        rw [List.getElem?_eq_getElem h] at hy
        cases hy; rfl
      have hD := wellD hcw
      obtain ⟨p, hp, hb⟩ := bsearch_ok c.names y hD.asc (by have := hco.names.2; omega) q'
      have hidx := pos_idx hD.asc hp
      have hw1 := wrap_succ (show i + 1 < 2 ^ 63 by omega)
      obtain ⟨q3, d3, H3, _⟩ := H.stw 0 (v := .agg [.i .u8 0, .s [], .nsl, .nsl]) (m := 4) rfl rfl ⟨rfl, rfl⟩
      have l4 := H3.ldw 0 (m := 4) rfl rfl
      have bad : kidN c y = none → findP n pl = none := fun hk => by rw [hf, hd]; simp only [findP, hk]
      have hend : KR s [(.agg [.id, .id, (.sl 1 .id), (.sl 4 (.agg [.id, .id, (.sl 1 .id), (.sl 4 (.agg [.id, .id, (.sl 1 .id), (.sl 4 .id)]))]))]), .id] (.tup [.agg noN.cells, .b false]) (some ([.agg [.i .u8 0, .s [], .nsl, .nsl], .b false], q3)) := KR_some H3.over rfl rfl
      by_cases c2 : c.kind = 2
      · have e2 : ((c.kind : Int) ≠ 2) = False := by simp only [ne_eq, eq_iff_iff, iff_false]; omega
        by_cases c3 : c.names[p]? = some y
        · rw [decide_eq_true c3] at hb
          rw [if_pos c3] at hidx
          have hpl : p < c.names.length := (List.getElem?_eq_some_iff.1 c3).1
          obtain ⟨k, hk⟩ : ∃ k, c.kids[p]? = some k := ⟨_, List.getElem?_eq_getElem (by rw [← hD.len]; exact hpl)⟩
          have hkid : kidN c y = some k := by unfold kidN; rw [if_pos c2, hidx]; exact hk
          have hget := kid_get hk
          obtain ⟨q4, d4, H4, _⟩ := H.stw 1 (v := .agg k.cells) (m := 4) rfl rfl ⟨cells4 k, ones4 k⟩
          have hld : ldA q' true 4 (.ep k.cells 0 .shut) = some (.agg k.cells) := rfl
          simp only [go_sem, W_cond2, WO_guard3, WE_guard3, WQ_guard3, KB_n, KB_x, Nat.reduceBEq, Nat.reduceAdd, Nat.reduceLT, Nat.reduceLeDiff, Nat.reduceEqDiff, reduceIte, Int.reduceEq, reduceCtorEq, g2, g4, g10, g11, g12, e1, natOf_nat, hy2, cells_s, ldA_1, l0, l2, l3, hb, e2, hget, hld, pub_cells, d4, hw1, Nat.zero_add]
          exact ⟨x - 1, by omega, i + 1, k, by omega, hco.kids.1 k (List.mem_of_getElem? hk), hD.kid hk, by rw [hf, hd]; simp only [findP, hkid], H4, rfl⟩
        · rw [decide_eq_false c3] at hb
          rw [if_neg c3] at hidx
          have hkid : kidN c y = none := by unfold kidN; rw [if_pos c2, hidx]
          rw [bad hkid]
          simp only [go_sem, W_cond2, WO_guard3, WE_guard3, WQ_guard3, KB_n, KB_x, Nat.reduceBEq, Nat.reduceAdd, Nat.reduceLT, Nat.reduceLeDiff, Nat.reduceEqDiff, reduceIte, Int.reduceEq, reduceCtorEq, g2, g4, g10, g11, g12, e1, natOf_nat, hy2, cells_s, ldA_1, l0, l2, l3, hb, e2, d3, l4, Nat.zero_add]
          exact hend
      · have e2 : ((c.kind : Int) ≠ 2) = True := by simp only [ne_eq, eq_iff_iff, iff_true]; omega
        have hkid : kidN c y = none := by unfold kidN; rw [if_neg c2]
        rw [bad hkid]
        simp only [go_sem, W_cond2, WO_guard3, WE_guard3, WQ_guard3, KB_n, KB_x, Nat.reduceBEq, Nat.reduceAdd, Nat.reduceLT, Nat.reduceLeDiff, Nat.reduceEqDiff, reduceIte, Int.reduceEq, reduceCtorEq, g2, g4, g10, g11, g12, e1, natOf_nat, hy2, cells_s, ldA_1, l0, l2, l3, hb, e2, d3, l4, Nat.zero_add]
        exact hend
    · have e1 : ((i : Int) < (pl.length : Int)) = False := by simp only [eq_iff_iff, iff_false]; omega
      rw [List.drop_of_length_le (by omega)] at hf
      rw [hf]
      have l4 := H.ldw 1 (m := 4) rfl rfl
      obtain ⟨q4, d4, H4, _⟩ := H.stw 0 (v := .agg c.cells) (m := 4) rfl rfl ⟨cells4 c, ones4 c⟩
      have l5 := H4.ldw 0 (m := 4) rfl rfl
      simp only [go_sem, W_cond2, WO_guard3, WE_guard3, WQ_guard3, KB_n, KB_x, Nat.reduceBEq, Nat.reduceAdd, Nat.reduceLT, Nat.reduceLeDiff, Nat.reduceEqDiff, reduceIte, Int.reduceEq, reduceCtorEq, g2, g4, g10, g11, g12, e1, l4, pub_cells, frz_cells, d4, l5]
      refine KR_some H4.over ?_ ?_
      · have := av_refs c
        rw [ND.av_eq] at this
        simp only [tupOf, AV.refs.eq_8, AV.refs.go, this]
        rfl
      · have hwk : wkZ [(.agg [.id, .id, (.sl 1 .id), (.sl 4 (.agg [.id, .id, (.sl 1 .id), (.sl 4 (.agg [.id, .id, (.sl 1 .id), (.sl 4 .id)]))]))]), .id] [.agg c.cells, .b true] = [.agg c.cells, .b true] := by simp [wkZ, wk, ND.cells]
        rw [hwk]
        rfl
  · simp only [go_sem, W_cond2, WO_guard3, WE_guard3, WQ_guard3, KB_n, KB_x, Nat.reduceBEq, Nat.reduceAdd, Nat.reduceLT, Nat.reduceLeDiff, Nat.reduceEqDiff, reduceIte, Int.reduceEq, reduceCtorEq]
    exact ⟨0, n, by omega, ho, hwl, rfl, H1, rfl⟩
end Go.Proofs.YtkkfjoiffcmpeaaDoor

/-
  ftree.New, and what a Tree tells.
-/
set_option maxRecDepth 100000
set_option maxHeartbeats 2000000
set_option linter.unusedSimpArgs false
set_option linter.constructorNameAsVariable false
namespace Go.Proofs.YtkkfjoiffcmpeaaDoor
open Go.Proofs.YtkkfjoiffcmpeaaDoor.Am
attribute [local irreducible] W WO WE WQ WD Tr.get Tr.set
theorem over4 (k : ND) : over [.i .u8 0, .s [], .nsl, .nsl] 0 k.cells = some k.cells := rfl
theorem new_hp {s0 s : St} {en : En} {R : List RA} {B : List (Nat × Box)} (H : Hp s0 s en R B) (n : ND) (ho : n.Ok) (hb : nodesN n < 2 ^ 62) (hm : mayN n = true) :
    ∃ r s', (lim prog).call f_ftree_New [.agg n.cells] s = some (r, s') ∧ ∃ id, r = .tup [.p id 0, .i .i64 0] ∧ Hp s0 s' en R ((id, .cells 55 n.cells) :: B) := by
  refine fn_G (Post := fun r s' => ∃ id, r = .tup [.p id 0, .i .i64 0] ∧ Hp s0 s' en R ((id, .cells 55 n.cells) :: B)) p_ftree_New rfl rfl ?_
  have H0 := H.enter.new (.cells 25 n.cells)
  generalize hq : s.enter.new (.cells 25 n.cells) = q at H0
  generalize hm0 : s.enter.nb = m at H0
  have l0 := H0.ldw 0 (m := 4) rfl rfl
  have h1 := may_ok n ho hb q H0.wf
  have h2 := own_ok n ho q H0.wf
  rw [hm] at h1
  have hz0 : wkZ c_ftree_New.cin [.agg n.cells] = [.agg n.cells] := by simp [c_ftree_New, wkZ, wk, ND.cells]
  rw [hz0]
  have H2 := H0.new (.cells 55 n.cells)
  generalize hq2 : q.new (.cells 55 n.cells) = q2 at H2
  generalize hid : q.nb = id at H2
  have hpc : ∀ s, pub s (.agg n.cells) = some (.agg n.cells, s) := fun s => rfl
  simp only [c_ftree_New, go_sem, W_cond2, WO_guard3, WE_guard3, WQ_guard3, KB_n, KB_x, Nat.reduceBEq, Nat.reduceAdd, Nat.reduceLT, Nat.reduceLeDiff, Nat.reduceEqDiff, reduceIte, Int.reduceEq, reduceCtorEq, cells4, hq, hm0, l0, pub_cells, h1, h2, over4, hq2, hid]
  refine ⟨_, _, rfl, id, rfl, ?_⟩
  exact (H.leaveR (n1 := s.en) H2 rfl).sel (List.range R.length) (0 :: List.range' 2 B.length) List.nodup_range (by
    rw [List.nodup_cons]
    exact ⟨by simp [List.mem_range']; omega, List.nodup_range'⟩) |> fun h => by
      rw [pick_range] at h
      have : pick ((id, Box.cells 55 n.cells) :: (m, Box.cells 25 n.cells) :: B) (0 :: List.range' 2 B.length) = (id, Box.cells 55 n.cells) :: B := by
        simp only [pick, List.getElem?_cons_zero]
        have h2 : List.range' 2 B.length = (List.range' 1 B.length).map (· + 1) := by apply List.ext_getElem <;> simp <;> omega
        rw [h2, pick_cons, pick_tail]
      rw [this] at h
      exact h
end Go.Proofs.YtkkfjoiffcmpeaaDoor

/-
  What a Tree tells of a place.
-/
set_option maxRecDepth 100000
set_option maxHeartbeats 2000000
set_option linter.unusedSimpArgs false
set_option linter.constructorNameAsVariable false
namespace Go.Proofs.YtkkfjoiffcmpeaaDoor
open Go.Proofs.YtkkfjoiffcmpeaaDoor.Am
attribute [local irreducible] W WO WE WQ WD Tr.get Tr.set
theorem over_box {s q : St} (h : Over s q) {id : Nat} (hid : id < s.nb) : q.box? id = s.box? id := by
  have h1 := h.nb
  have e1 : Nat.blt id q.nb = true := by rw [Nat.blt_eq]; omega
  have e2 : Nat.blt id s.nb = true := by rw [Nat.blt_eq]; exact hid
  simp only [St.box?, e1, e2, cond_true, ← h.boxes, List.getElem?_drop]
  congr 1
  omega
theorem ld_old {s q : St} (h : Over s q) {id T m : Nat} {cs : List AV} (hid : id < s.nb) (hb : s.box? id = some (.cells T cs)) (hc : cs.length = m) : ldA q true m (.p id 0) = some (.agg cs) := by
  have hb2 : q.box? id = some (.cells T cs) := by rw [over_box h hid]; exact hb
  simp only [ldA, St.cells?, hb2, cut, List.drop_zero]
  rw [List.take_of_length_le (by omega), if_pos hc]; rfl
theorem at_ok {n : ND} (ho : n.Ok) (hwl : wellN n = true) {pl : List (List Nat)} (hl : pl.length < 2 ^ 62) {s : St} (hw : Wf s) {id : Nat} (hid : id < s.nb) (hb : s.box? id = some (.cells 55 n.cells)) :
    (lim prog).call f_ftree_Tree_at [.p id 0, tx pl] s = some (.agg (foundN (findP n pl)).cells, s) := by
  refine fn_W p_ftree_Tree_at rfl rfl ?_
  have H1 := (Hp.begin hw).new (.cells 25 [.i .u8 0, .s [], .nsl, .nsl])
  generalize hq : s.enter.new (.cells 25 [.i .u8 0, .s [], .nsl, .nsl]) = q at H1
  generalize hm : s.enter.nb = m at H1
  have l0 := ld_old H1.over hid hb (cells4 n)
  have hf := find_ok n ho hwl pl hl q H1.wf
  generalize foundN (findP n pl) = k at hf
  have H2 := H1.new (.cells 25 [.i .u8 0, .s [], .nsl, .nsl])
  generalize hq2 : q.new (.cells 25 [.i .u8 0, .s [], .nsl, .nsl]) = q2 at H2
  generalize hm2 : q.nb = m2 at H2
  obtain ⟨q3, d3, H3, _⟩ := H2.stw 0 (v := .agg k.cells) (m := 4) rfl rfl ⟨cells4 k, ones4 k⟩
  have l3 := H3.ldw 0 (m := 4) rfl rfl
  obtain ⟨q4, d4, H4, _⟩ := H3.stw 1 (v := .agg k.cells) (m := 4) rfl rfl ⟨cells4 k, ones4 k⟩
  have l4 := H4.ldw 1 (m := 4) rfl rfl
  have hz0 : wkZ c_ftree_Tree_at.cin [.p id 0, tx pl] = [.p id 0, tx pl] := by simp [c_ftree_Tree_at, wkZ, wk]
  rw [hz0]
  have hpp : eqP (.p id 0) .np = some false := rfl
  simp only [c_ftree_Tree_at, go_sem, W_cond2, WO_guard3, WE_guard3, WQ_guard3, KB_n, KB_x, Nat.reduceBEq, Nat.reduceAdd, Nat.reduceLT, Nat.reduceLeDiff, Nat.reduceEqDiff, reduceIte, Int.reduceEq, reduceCtorEq, hq, hm, hpp, Nat.add_zero, Nat.zero_add, l0, pub_cells, hf, hq2, hm2, d3, l3, d4, l4, frz_cells]
  refine KR_some H4.over ?_ ?_
  · have := av_refs k
    rw [ND.av_eq] at this
    exact this
  · simp [tupOf, wkZ, wk, ND.cells]
theorem kind_ok {n : ND} (ho : n.Ok) (hwl : wellN n = true) {pl : List (List Nat)} (hl : pl.length < 2 ^ 62) {s : St} (hw : Wf s) {id : Nat} (hid : id < s.nb) (hb : s.box? id = some (.cells 55 n.cells)) :
    (lim prog).call f_ftree_Tree_Kind [.p id 0, tx pl] s = some (.i .u8 ((foundN (findP n pl)).kind : Nat), s) := by
  refine fn_W p_ftree_Tree_Kind rfl rfl ?_
  have h1 := at_ok ho hwl hl (s := s.enter) hw.enter hid hb
  have hz0 : wkZ c_ftree_Tree_Kind.cin [.p id 0, tx pl] = [.p id 0, tx pl] := by simp [c_ftree_Tree_Kind, wkZ, wk]
  have hcut : ∀ k : ND, cut k.cells 0 1 = some [.i .u8 (k.kind : Nat)] := fun k => rfl
  rw [hz0]
  simp only [c_ftree_Tree_Kind, go_sem, W_cond2, WO_guard3, WE_guard3, WQ_guard3, KB_n, KB_x, Nat.reduceBEq, Nat.reduceAdd, Nat.reduceLT, Nat.reduceLeDiff, Nat.reduceEqDiff, reduceIte, Int.reduceEq, reduceCtorEq, h1, hcut]
  exact KR_some (Over.enter s) rfl rfl
theorem textT_ok {n : ND} (ho : n.Ok) (hwl : wellN n = true) {pl : List (List Nat)} (hl : pl.length < 2 ^ 62) {s : St} (hw : Wf s) {id : Nat} (hid : id < s.nb) (hb : s.box? id = some (.cells 55 n.cells)) :
    (lim prog).call f_ftree_Tree_Text [.p id 0, tx pl] s = some (.s (foundN (findP n pl)).text, s) := by
  refine fn_W p_ftree_Tree_Text rfl rfl ?_
  have h1 := at_ok ho hwl hl (s := s.enter) hw.enter hid hb
  have hz0 : wkZ c_ftree_Tree_Text.cin [.p id 0, tx pl] = [.p id 0, tx pl] := by simp [c_ftree_Tree_Text, wkZ, wk]
  have hcut : ∀ k : ND, cut k.cells 1 1 = some [.s k.text] := fun k => rfl
  rw [hz0]
  simp only [c_ftree_Tree_Text, go_sem, W_cond2, WO_guard3, WE_guard3, WQ_guard3, KB_n, KB_x, Nat.reduceBEq, Nat.reduceAdd, Nat.reduceLT, Nat.reduceLeDiff, Nat.reduceEqDiff, reduceIte, Int.reduceEq, reduceCtorEq, h1, hcut]
  exact KR_some (Over.enter s) rfl rfl
end Go.Proofs.YtkkfjoiffcmpeaaDoor

/-
  The walker's small methods.
-/
set_option maxRecDepth 100000
set_option maxHeartbeats 2000000
set_option linter.unusedSimpArgs false
set_option linter.constructorNameAsVariable false
namespace Go.Proofs.YtkkfjoiffcmpeaaDoor
open Go.Proofs.YtkkfjoiffcmpeaaDoor.Am
attribute [local irreducible] W WO WE WQ WD Tr.get Tr.set
theorem told_cap {es : Nat} {a : AV} {xs : List AV} (h : Told1 es a xs) (s : St) : ∃ a', sliceA s false es a none (some (.i .i64 (xs.length : Nat))) (some (.i .i64 (xs.length : Nat))) = some (a', s) ∧ FullA es a' xs := by
  have hb : bounds xs.length none (some (.i .i64 (xs.length : Nat))) = some (0, xs.length) := by simp [bounds, natOf]
  have hn : natOf (.i .i64 (xs.length : Nat)) = some xs.length := by simp [natOf]
  rcases h with ⟨rfl, rfl⟩ | ⟨rfl, rfl⟩ | rfl | rfl | rfl | rfl
  · exact ⟨.nsl, rfl, .inl ⟨rfl, rfl⟩⟩
  · exact ⟨.wz, rfl, .inr (.inl ⟨rfl, rfl⟩)⟩
  · exact ⟨.sl es xs .full, by simp only [sliceA, if_true, hb, hn, pub]; simp, .full⟩
  · exact ⟨.sl es xs .full, by simp only [sliceA, if_true, hb, hn, pub]; simp, .full⟩
  · exact ⟨.ws true es xs, by simp only [sliceA, if_true, hb, hn]; simp, .ws⟩
  · exact ⟨.ws true es xs, by simp only [sliceA, if_true, hb, hn]; simp, .ws⟩
theorem ld1_old {s q : St} (h : Over s q) {id T off : Nat} {cs : List AV} {v : AV} (hid : id < s.nb) (hb : s.box? id = some (.cells T cs)) (hc : cs[off]? = some v) : ldA q false 1 (.p id off) = some v :=
  ld_box (by rw [over_box h hid]; exact hb) hc
theorem al1w (a : List Nat) : allLen 1 [AV.s a] = true := rfl
theorem below_ok {s : St} (hw : Wf s) {iw T : Nat} {f a left x y z : AV} {at_ : List (List Nat)} (hid : iw < s.nb) (hb : s.box? iw = some (.cells T [f, a, left, x, y, z])) (ha : Told1 1 a (at_.map .s)) (hl : at_.length + 1 < 2 ^ 38) (name : List Nat) :
    (lim prog).call f_walk_walker_below [.p iw 0, .s name] s = some (tx (at_ ++ [name]), s) := by
  refine fn_W p_walk_walker_below rfl rfl ?_
  have H := Hp.begin hw
  have l1 := ld1_old H.over (off := 1) (v := a) hid hb rfl
  obtain ⟨a', h1, hf⟩ := told_cap ha s.enter
  obtain ⟨r, q, h2, H2, _⟩ := H.appN 9 (y := .sl 1 [.s name] .full) (ys := [.s name]) hf (by simp [elems, St.ok]) (by simp; omega)
  obtain ⟨r', q2, h3, t3, H3, _⟩ := H2.pub 0 rfl
  have h4 : pubA q r = some (r', q2) := by rw [pubA_row (H2.rows (i := 0) rfl)]; exact h3
  have hlen := ha.len s.enter
  rw [List.length_map] at h1 hlen
  simp only [c_walk_walker_below, go_sem, W_cond2, WO_guard3, WE_guard3, WQ_guard3, KB_n, KB_x, Nat.reduceBEq, Nat.reduceAdd, Nat.reduceLT, Nat.reduceLeDiff, Nat.reduceEqDiff, reduceIte, Int.reduceEq, reduceCtorEq, Nat.zero_add, l1, ha.ld, hlen, h1, al1w, le11s, h2, h4]
  have hm : at_.map AV.s ++ [.s name] = (at_ ++ [name]).map .s := by simp
  simp only [hm] at t3
  refine KR_some (vs := [r']) H3.over (t3.refs (refs_goS _)) ?_
  simp only [tupOf, wkZ, t3.wk (wkM_s _)]
end Go.Proofs.YtkkfjoiffcmpeaaDoor

/-
  Iterators over the pieces of a text.
-/
set_option maxRecDepth 100000
set_option linter.unusedSimpArgs false
set_option linter.constructorNameAsVariable false
namespace Go.Proofs.YtkkfjoiffcmpeaaDoor
open Go.Proofs.YtkkfjoiffcmpeaaDoor.Am
def segs : List Nat → List Nat → List (List Nat)
  | cur, [] => [cur]
  | cur, c :: l => if c = 47 then cur :: segs [] l else segs (cur ++ [c]) l
def splitL (l : List Nat) : List (List Nat) := segs [] l
theorem segs_none : ∀ {l cur : List Nat}, 47 ∉ l → segs cur l = [cur ++ l]
  | [], cur, _ => by simp [segs]
  | c :: l, cur, h => by
    simp only [List.mem_cons, not_or] at h
    unfold segs
    rw [if_neg (Ne.symm h.1), segs_none h.2]
    simp
theorem segs_cut : ∀ {a cur b : List Nat}, 47 ∉ a → segs cur (a ++ 47 :: b) = (cur ++ a) :: segs [] b
  | [], cur, b, _ => by simp [segs]
  | c :: a, cur, b, h => by
    simp only [List.mem_cons, not_or] at h
    show (if c = 47 then cur :: segs [] (a ++ 47 :: b) else segs (cur ++ [c]) (a ++ 47 :: b)) = _
    rw [if_neg (Ne.symm h.1), segs_cut h.2]
    simp
theorem split_none {l : List Nat} (h : 47 ∉ l) : splitL l = [l] := by unfold splitL; rw [segs_none h]; rfl
theorem split_cut {a b : List Nat} (h : 47 ∉ a) : splitL (a ++ 47 :: b) = a :: splitL b := by unfold splitL; rw [segs_cut h]; rfl
theorem cut_of {l : List Nat} (h : 47 ∈ l) : ∃ a b, l = a ++ 47 :: b ∧ 47 ∉ a := by
  induction l with
  | nil => simp at h
  | cons c l ih =>
    by_cases hc : c = 47
    · exact ⟨[], l, by simp [hc], by simp⟩
    · obtain ⟨a, b, rfl, h2⟩ := ih (by simpa [Ne.symm hc] using h)
      exact ⟨c :: a, b, rfl, by simp [Ne.symm hc, h2]⟩
theorem leave_refs {s s1 : St} {v : AV} (h : v.refs = true) : leave s s1 v = { s1 with lo := min s.lo s1.lo } := by
  unfold Am.leave
  rw [h, Bool.not_true, Bool.and_false, if_neg (by simp)]
theorem splitSeq_ok (l : List Nat) (s : St) : (lim prog).call f_strings_splitSeq [.s l, .s [47], .i .i64 0] s =
    some (.fn f_strings_splitSeq_1 [.p (s.nb + 1) 0, .p s.nb 0, .p (s.nb + 2) 0], { ((s.new (.cells 9 [.s l])).new (.cells 9 [.s [47]])).new (.cells 3 [.i .i64 0]) with lo := min s.lo s.nb }) := by
  obtain ⟨r, s', h, rfl, rfl⟩ := fn_G (f := f_strings_splitSeq) (args := [.s l, .s [47], .i .i64 0]) (s := s) (Post := fun r s' => r = .fn f_strings_splitSeq_1 [.p (s.nb + 1) 0, .p s.nb 0, .p (s.nb + 2) 0] ∧ s' = { ((s.new (.cells 9 [.s l])).new (.cells 9 [.s [47]])).new (.cells 3 [.i .i64 0]) with lo := min s.lo s.nb }) p_strings_splitSeq rfl rfl (by
    have c1 : (AV.s l).cells = [.s l] := rfl
    have c2 : (AV.s [47]).cells = [.s [47]] := rfl
    have c3 : (AV.i .i64 0).cells = [.i .i64 0] := rfl
    have hl1 : ∀ a : AV, [a].length = 1 := fun _ => rfl
    simp only [c_strings_splitSeq, go_sem, W_cond, WO_guard2, WE_guard2, WQ_guard2, W_regD, KB_n, KB_x, Nat.reduceBEq, Nat.reduceAdd, Nat.reduceLT, Nat.reduceLeDiff, Nat.reduceEqDiff, reduceIte, Int.reduceEq, reduceCtorEq, c1, c2, c3, hl1]
    exact ⟨_, _, rfl, rfl, leave_refs rfl⟩)
  exact h
theorem SplitSeq_ok (l : List Nat) (s : St) : (lim prog).call f_strings_SplitSeq [.s l, .s [47]] s =
    some (.fn f_strings_splitSeq_1 [.p (s.nb + 1) 0, .p s.nb 0, .p (s.nb + 2) 0], { ((s.new (.cells 9 [.s l])).new (.cells 9 [.s [47]])).new (.cells 3 [.i .i64 0]) with lo := min s.lo s.nb }) := by
  obtain ⟨r, s', h, rfl, rfl⟩ := fn_G (f := f_strings_SplitSeq) (args := [.s l, .s [47]]) (s := s) (Post := fun r s' => r = .fn f_strings_splitSeq_1 [.p (s.nb + 1) 0, .p s.nb 0, .p (s.nb + 2) 0] ∧ s' = { ((s.new (.cells 9 [.s l])).new (.cells 9 [.s [47]])).new (.cells 3 [.i .i64 0]) with lo := min s.lo s.nb }) p_strings_SplitSeq rfl rfl (by
    simp only [c_strings_SplitSeq, go_sem, W_cond, WO_guard2, WE_guard2, WQ_guard2, W_regD, KB_n, KB_x, Nat.reduceBEq, Nat.reduceAdd, Nat.reduceLT, Nat.reduceLeDiff, Nat.reduceEqDiff, reduceIte, Int.reduceEq, reduceCtorEq, splitSeq_ok l]
    refine ⟨_, _, rfl, rfl, ?_⟩
    refine (leave_refs rfl).trans ?_
    show ({ ((s.enter.new (.cells 9 [.s l])).new (.cells 9 [.s [47]])).new (.cells 3 [.i .i64 0]) with lo := min s.lo (min s.nb s.nb) } : St) = _
    rw [Nat.min_self]
    rfl)
  exact h
theorem bounds_oi {len b : Nat} (h2 : b ≤ len) : bounds len none (some (.i .i64 (b : Int))) = some (0, b) := by
  unfold bounds
  simp [natOf]
  omega
theorem bounds_io {len a : Nat} (h2 : a ≤ len) : bounds len (some (.i .i64 (a : Int))) none = some (a, len) := by
  unfold bounds
  simp [natOf]
  omega
theorem splitIter {a b c : Nat} {l : List Nat} (hl : Txt l) {s : St} (ha : s.box? a = some (.cells 9 [.s [47]])) (hb : s.box? b = some (.cells 9 [.s l])) (hc : s.box? c = some (.cells 3 [.i .i64 0])) (hab : a ≠ b) (hcb : c ≠ b) (la : a < s.nb) (lb : b < s.nb) (lc : c < s.nb) :
    IterOk prog (fun j => j = a ∨ j = b ∨ j = c) b f_strings_splitSeq_1 [.p a 0, .p b 0, .p c 0] ((splitL l).map .s) s := by
  intro s0 h tB ky I R B hI hov hw hh ht h0 h0b
  obtain ⟨r, s', hcall, rfl, hres⟩ := fn_G (f := f_strings_splitSeq_1) (args := [.yld ky, .p a 0, .p b 0, .p c 0]) (s := s) (Post := fun r s' => r = .tup [] ∧ Over s0 s' ∧ Wf s' ∧ s.nb ≤ s'.nb ∧ s.nt ≤ s'.nt ∧ (I (splitL l).length s' ∨ R s')) p_strings_splitSeq_1 rfl rfl (by
    have hend : ∀ q, Over s0 q → Wf q → s.nb ≤ q.nb → s.nt ≤ q.nt → (I (splitL l).length q ∨ R q) → KH s [] (fun r s' => r = .tup [] ∧ Over s0 s' ∧ Wf s' ∧ s.nb ≤ s'.nb ∧ s.nt ≤ s'.nt ∧ (I (splitL l).length s' ∨ R s')) (some ([], q)) := fun q k1 k2 k3 k4 k5 => by
      obtain ⟨f1, f2, f3, f4, f5⟩ := leave_fr (O := fun j => j = a ∨ j = b ∨ j = c) (h := h) (tB := tB) (v := .tup []) k2 hh k3 k4 ht rfl
      refine ⟨_, _, rfl, rfl, f5 s0 hov k1, f2, f3, f4, k5.imp (fun k => B.stab _ _ _ k f1) fun k => B.stabR _ _ k f1⟩
    have hl1 : ((((List.length [47] : Nat)) : Int) = 0) = False := by simp
    have ld_a := ld_box (s := s.enter) (v := .s [47]) (off := 0) ha rfl
    simp only [c_strings_splitSeq_1, go_sem, W_cond, WO_guard2, WE_guard2, WQ_guard2, W_regD, KB_n, KB_x, Nat.reduceBEq, Nat.reduceAdd, Nat.reduceLT, Nat.reduceLeDiff, Nat.reduceEqDiff, reduceIte, Int.reduceEq, reduceCtorEq, ld_a, ofNat_len, hl1]
    refine W_loop (fun n e q => ∃ (j : Nat) (rest : List Nat), rest.length ≤ n ∧ splitL rest = (splitL l).drop j ∧ Txt rest ∧ I j q ∧ Over s0 q ∧ Wf q ∧ s.nb ≤ q.nb ∧ s.nt ≤ q.nt ∧ q.box? a = some (.cells 9 [.s [47]]) ∧ q.box? b = some (.cells 9 [.s rest]) ∧ q.box? c = some (.cells 3 [.i .i64 0]) ∧
      e.get 0 = .yld ky ∧ e.get 1 = .p a 0 ∧ e.get 2 = .p b 0 ∧ e.get 3 = .p c 0) ?_ l.length _ _ ?_
    · rintro n e q ⟨j, rest, hn, hsp, hr, hIj, hovq, hwq, hnb, hnt, ba, bb, bc, g0, g1, g2, g3⟩
      have lda := ld_box (s := q) (v := .s [47]) (off := 0) ba rfl
      have ldb := ld_box (s := q) (v := .s rest) (off := 0) bb rfl
      have ldc := ld_box (s := q) (v := .i .i64 0) (off := 0) bc rfl
      have hix := index_ok rest 47 (by decide) q
      have hlen := hr.len
      by_cases hm : 47 ∈ rest
      · obtain ⟨x, z, hxz, hx⟩ := cut_of hm
        have hi : idxB 47 0 rest = (x.length : Int) := by rw [hxz, idxB_app hx, Nat.zero_add]
        rw [hi] at hix
        have hle : x.length + 1 + z.length = rest.length := by rw [hxz]; simp; omega
        have hlt : ((x.length : Int) < 0) = False := eq_false (by omega)
        have hadd0 : IntKind.i64.wrap ((x.length : Int) + 0) = (x.length : Int) := by rw [Int.add_zero, wrap_nat (by omega)]
        have htk : ((rest.drop 0).take (x.length - 0)) = x := by rw [hxz]; simp
        have hdk : ((rest.drop (x.length + 1)).take (rest.length - (x.length + 1))) = z := by
          rw [hxz, show x.length + 1 = (x ++ [47]).length by simp, show x ++ 47 :: z = (x ++ [47]) ++ z by simp, List.drop_left]
          exact List.take_of_length_le (by simp; omega)
        have hsp2 : x :: splitL z = (splitL l).drop j := by rw [← hsp, hxz, split_cut hx]
        have hjlt : j < (splitL l).length := by
          have := congrArg List.length hsp2
          simp at this; omega
        have hLj : ((splitL l).map AV.s)[j]'(by simpa using hjlt) = .s x := by
          rw [List.getElem_map]
          rw [List.drop_eq_getElem_cons hjlt] at hsp2
          rw [(List.cons.inj hsp2).1]
        have hdz : splitL z = (splitL l).drop (j + 1) := by
          rw [List.drop_eq_getElem_cons hjlt] at hsp2
          exact (List.cons.inj hsp2).2
        obtain ⟨bb2, q', hstep, ht1, hf1, hov1, hw1, hnb1, hnt1, hkeep⟩ := B.step j (by simpa using hjlt) q hIj hovq hwq (by omega) (by omega)
        rw [hLj] at hstep
        have ba' : q'.box? a = some (.cells 9 [.s [47]]) := by rw [hkeep a (.inl (.inl rfl)) (by omega)]; exact ba
        have bb' : q'.box? b = some (.cells 9 [.s rest]) := by rw [hkeep b (.inl (.inr (.inl rfl))) (by omega)]; exact bb
        have bc' : q'.box? c = some (.cells 3 [.i .i64 0]) := by rw [hkeep c (.inl (.inr (.inr rfl))) (by omega)]; exact bc
        have ldb' := ld_box (s := q') (v := .s rest) (off := 0) bb' rfl
        have lda' := ld_box (s := q') (v := .s [47]) (off := 0) ba' rfl
        have hz : Txt z := ⟨fun n hn => hr.lt n (by rw [hxz]; simp [hn]), by omega⟩
        have est := st_box (s := q') (v := .s z) (off := 0) bb' rfl rfl (by simp)
        have hes : esc (q'.setBox b (.cells 9 ([AV.s rest].set 0 (.s z)))) b (.s z) = q'.setBox b (.cells 9 [.s z]) := rfl
        rw [hes] at est
        have hb1 : IntKind.i64.wrap ((x.length : Int) + 1) = ((x.length + 1 : Nat) : Int) := wrap_succ (by omega)
        cases bb2 with
        | true =>
          have fr := Fr.setBox (O := fun j => j = a ∨ j = b ∨ j = c) (h := h) (tB := tB) hw1 (by omega) (.inr (.inr (.inl rfl))) (show b < q'.nb by omega) (.cells 9 [.s z])
          have bx : ∀ i, (q'.setBox b (.cells 9 [.s z])).box? i = if i = b then some (.cells 9 [.s z]) else q'.box? i := fun i => setBox_box? hw1.b (by omega) i
          simp only [go_sem, W_cond, WO_guard2, WE_guard2, WQ_guard2, W_regD, KB_n, KB_x, Nat.reduceBEq, Nat.reduceAdd, Nat.reduceLT, Nat.reduceLeDiff, Nat.reduceEqDiff, reduceIte, Int.reduceEq, reduceCtorEq, Nat.zero_add, g0, g1, g2, g3, lda, ldb, ldc, hix, hlt, hadd0, bounds_oi (show x.length ≤ rest.length by omega), htk, hstep, lda', ldb', List.length_cons, List.length_nil, ofNat_len, Int.cast_ofNat_Int, hb1, bounds_io (show x.length + 1 ≤ rest.length by omega), hdk, est]
          refine ⟨z.length, by omega, j + 1, z, Nat.le_refl _, hdz, hz, B.stab _ _ _ (ht1 rfl) fr, ?_, hw1.setBox _ _, by show s.nb ≤ q'.nb; omega, by show s.nt ≤ q'.nt; omega, ?_, ?_, ?_⟩
          · exact Over.setBox hov1 h0b (by omega) _
          · rw [bx, if_neg hab]; exact ba'
          · rw [bx, if_pos rfl]
          · rw [bx, if_neg hcb]; exact bc'
        | false =>
          simp only [go_sem, W_cond, WO_guard2, WE_guard2, WQ_guard2, W_regD, KB_n, KB_x, Nat.reduceBEq, Nat.reduceAdd, Nat.reduceLT, Nat.reduceLeDiff, Nat.reduceEqDiff, reduceIte, Int.reduceEq, reduceCtorEq, Nat.zero_add, g0, g1, g2, g3, lda, ldb, ldc, hix, hlt, hadd0, bounds_oi (show x.length ≤ rest.length by omega), htk, hstep]
          exact hend q' hov1 hw1 (by omega) (by omega) (.inr (hf1 rfl))
      · have hi : idxB 47 0 rest = -1 := idxB_miss hm
        rw [hi] at hix
        have hlt : ((-1 : Int) < 0) = True := by simp
        have hsp2 : [rest] = (splitL l).drop j := by rw [← hsp, split_none hm]
        have hjlen := congrArg List.length hsp2
        simp only [List.length_cons, List.length_nil, List.length_drop] at hjlen
        have hjlt : j < (splitL l).length := by omega
        have hLj : ((splitL l).map AV.s)[j]'(by simpa using hjlt) = .s rest := by
          rw [List.getElem_map]
          rw [List.drop_eq_getElem_cons hjlt] at hsp2
          rw [(List.cons.inj hsp2).1]
        obtain ⟨bb2, q', hstep, ht1, hf1, hov1, hw1, hnb1, hnt1, hkeep⟩ := B.step j (by simpa using hjlt) q hIj hovq hwq (by omega) (by omega)
        rw [hLj] at hstep
        simp only [go_sem, W_cond, WO_guard2, WE_guard2, WQ_guard2, W_regD, KB_n, KB_x, Nat.reduceBEq, Nat.reduceAdd, Nat.reduceLT, Nat.reduceLeDiff, Nat.reduceEqDiff, reduceIte, Int.reduceEq, reduceCtorEq, Nat.zero_add, g0, g1, g2, g3, lda, ldb, ldc, hix, hlt, hstep]
        refine hend q' hov1 hw1 (by omega) (by omega) ?_
        cases bb2 with
        | true => exact .inl (by have := ht1 rfl; rwa [show j + 1 = (splitL l).length by omega] at this)
        | false => exact .inr (hf1 rfl)
    · simp only [go_sem, W_cond, WO_guard2, WE_guard2, WQ_guard2, W_regD, KB_n, KB_x, Nat.reduceBEq, Nat.reduceAdd, Nat.reduceLT, Nat.reduceLeDiff, Nat.reduceEqDiff, reduceIte, Int.reduceEq, reduceCtorEq]
      exact ⟨0, l, Nat.le_refl _, rfl, hl, B.stab0 _ _ hI (Fr0.enter hh), hov.toEnter, hw.enter, Nat.le_refl _, Nat.le_refl _, ha, hb, hc⟩)
  obtain ⟨k1, k2, k3, k4, k5⟩ := hres
  exact ⟨s', hcall, k1, k2, k3, k4, by simpa using k5⟩
end Go.Proofs.YtkkfjoiffcmpeaaDoor

/-
  Steps of a path: the iterator.
-/
set_option maxRecDepth 100000
set_option linter.unusedSimpArgs false
set_option linter.constructorNameAsVariable false
namespace Go.Proofs.YtkkfjoiffcmpeaaDoor
open Go.Proofs.YtkkfjoiffcmpeaaDoor.Am
def stepOk (x : List Nat) : Bool := decide (x ≠ []) && decide (x ≠ [46])
def stepsL (l : List Nat) : List (List Nat) := (splitL l).filter stepOk
def cnt (l : List Nat) (j : Nat) : Nat := (((splitL l).take j).filter stepOk).length
theorem cnt_zero (l : List Nat) : cnt l 0 = 0 := rfl
theorem cnt_all (l : List Nat) : cnt l (splitL l).length = (stepsL l).length := by unfold cnt stepsL; rw [List.take_length]
theorem cnt_no {l : List Nat} {j : Nat} (hj : j < (splitL l).length) (h : stepOk (splitL l)[j] = false) : cnt l (j + 1) = cnt l j := by
  unfold cnt
  rw [List.take_succ_eq_append_getElem hj, List.filter_append]
  simp [h]
theorem cnt_yes {l : List Nat} {j : Nat} (hj : j < (splitL l).length) (h : stepOk (splitL l)[j] = true) : cnt l (j + 1) = cnt l j + 1 := by
  unfold cnt
  rw [List.take_succ_eq_append_getElem hj, List.filter_append]
  simp [h]
theorem step_at {l : List Nat} {j : Nat} (hj : j < (splitL l).length) (h : stepOk (splitL l)[j] = true) : ∃ hc : cnt l j < (stepsL l).length, (stepsL l)[cnt l j] = (splitL l)[j] := by
  have h1 : stepsL l = ((splitL l).take j).filter stepOk ++ (splitL l)[j] :: ((splitL l).drop (j + 1)).filter stepOk := by
    unfold stepsL
    conv => lhs; rw [← List.take_append_drop j (splitL l), List.drop_eq_getElem_cons hj, List.filter_append, List.filter_cons, if_pos h]
  have h2 : cnt l j = (((splitL l).take j).filter stepOk).length := rfl
  refine ⟨by rw [h1, h2]; simp, ?_⟩
  simp only [h1, h2]
  simp
abbrev stA1 : C := subC c_path_steps_1.body [1, 1, 0, 0]
abbrev stC1 : C := subC c_path_steps_1.body [1, 1, 0, 1]
theorem stepsBody {O : Nat → Prop} {O1 : Nat → Prop} {s0 : St} {h tB k1 idy ky : Nat} {l : List Nat} {I : Nat → St → Prop} {R : St → Prop} {e : Tr} (B : Body prog O s0 h tB (.yld ky) ((stepsL l).map .s) I R) (hk1 : h ≤ k1) (hy1 : idy < k1) (hyh : h ≤ idy)
    (hO1 : ∀ j, O1 j → h ≤ j ∧ j < k1 ∧ j ≠ idy) (h0 : s0.nb ≤ k1) (g2 : e.get 2 = .p idy 0) :
    Body prog O1 s0 (k1 + 1) tB (.yld k1) ((splitL l).map .s) (fun j q => I (cnt l j) q ∧ q.box? k1 = some (.loop 0 none e [6] stA1 stC1) ∧ q.box? idy = some (.cells 39 [.yld ky])) (fun q => R q ∧ ∃ tm ps a b, q.box? k1 = some (.loop 2 (some .ret) tm ps a b)) where
  stab := fun j q q' ⟨h1, h2, h3⟩ f => ⟨B.stab _ _ _ h1 (f.weaken (by omega) fun j hj ho => absurd (hO1 j ho).1 (by omega)), by rw [f.box k1 (by omega) fun ho => absurd (hO1 _ ho).2.1 (by omega)]; exact h2, by rw [f.box idy (by omega) fun ho => (hO1 _ ho).2.2 rfl]; exact h3⟩
  stab0 := fun q q' ⟨h1, h2, h3⟩ f => ⟨by rw [cnt_zero] at h1 ⊢; exact B.stab0 _ _ h1 (f.weaken (by omega) fun j hj ho => absurd (hO1 j ho).1 (by omega)), by rw [f.box k1 (by omega) fun ho => absurd (hO1 _ ho).2.1 (by omega)]; exact h2, by rw [f.box idy (by omega) fun ho => (hO1 _ ho).2.2 rfl]; exact h3⟩
  stabR := fun q q' ⟨h1, tm, ps, a, b, h2⟩ f => ⟨B.stabR _ _ h1 (f.weaken (by omega) fun j hj ho => absurd (hO1 j ho).1 (by omega)), tm, ps, a, b, by rw [f.box k1 (by omega) fun ho => absurd (hO1 _ ho).2.1 (by omega)]; exact h2⟩
  step := by
    intro j hj q ⟨hI, hk, hyb⟩ hov hw hh ht
    have hj' : j < (splitL l).length := by simpa using hj
    have hLj : ((splitL l).map AV.s)[j] = .s (splitL l)[j] := by simp
    rw [hLj]
    obtain ⟨x, hx⟩ : ∃ x, (splitL l)[j] = x := ⟨_, rfl⟩
    obtain ⟨q1, hq1⟩ : ∃ q1, q.setBox k1 (.loop 1 none e [6] stA1 stC1) = q1 := ⟨_, rfl⟩
    have w1 : Wf q1 := by rw [← hq1]; exact hw.setBox _ _
    have nb1 : q1.nb = q.nb ∧ q1.nt = q.nt := by rw [← hq1]; exact ⟨rfl, rfl⟩
    have bx1 : ∀ i, q1.box? i = if i = k1 then some (.loop 1 none e [6] stA1 stC1) else q.box? i := fun i => by rw [← hq1]; exact setBox_box? hw.b (by omega) i
    have fr1 : Fr O h tB q q1 := by rw [← hq1]; exact Fr.setBox hw (by omega) (.inl hk1) (by omega) _
    have ov1 : Over s0 q1 := by rw [← hq1]; exact Over.setBox hov h0 (by omega) _
    have hyb1 : q1.box? idy = some (.cells 39 [.yld ky]) := by rw [bx1, if_neg (by omega)]; exact hyb
    have ldy := ld_box (s := q1) (v := .yld ky) (off := 0) hyb1 rfl
    have hO1k : ¬ O1 k1 := fun ho => absurd (hO1 _ ho).2.1 (by omega)
    refine round_step ?_
    rw [hx]
    refine callY_W (t := e.set 10 6 (.s x)) hk rfl ?_
    simp only [stA1, c_path_steps_1, subC, go_sem, W_cond, WO_guard2, WE_guard2, WQ_guard2, W_regD, KB_n, KB_x, Nat.reduceBEq, Nat.reduceAdd, Nat.reduceLT, Nat.reduceLeDiff, Nat.reduceEqDiff, reduceIte, Int.reduceEq, reduceCtorEq]
    refine ⟨_, _, _, _, hk, ?_⟩
    rw [hq1]
    have bx2 : ∀ B i, (q1.setBox k1 B).box? i = if i = k1 then some B else q1.box? i := fun B i => setBox_box? w1.b (by omega) i
    have b1k := bx1 k1
    rw [if_pos rfl] at b1k
    have frs : ∀ B, Fr O h tB q1 (q1.setBox k1 B) := fun B => Fr.setBox w1 (by omega) (.inl hk1) (by omega) _
    have keep1 : ∀ i, (O1 i ∨ k1 + 1 ≤ i) → i < q.nb → q1.box? i = q.box? i := fun i hi hlt => by
      rw [bx1, if_neg]
      rintro rfl
      rcases hi with hi | hi
      · exact hO1k hi
      · omega
    have hno : stepOk x = false → ∀ e' : Tr, YK k1 (RoundK O1 (k1 + 1) s0 q (fun q => I (cnt l (j + 1)) q ∧ q.box? k1 = some (.loop 0 none e [6] stA1 stC1) ∧ q.box? idy = some (.cells 39 [.yld ky])) (fun q => R q ∧ ∃ tm ps a b, q.box? k1 = some (.loop 2 (some .ret) tm ps a b))) .n e' q1 := fun hs e' => by
      refine round_end b1k (by omega) w1 ov1 h0 (by omega) (by omega) hO1k keep1 (fun _ => ⟨?_, by rw [bx2, if_pos rfl], by rw [bx2, if_neg (by omega)]; exact hyb1⟩) (fun hh => by simp at hh) (fun i hh => by simp at hh)
      rw [cnt_no hj' (by rw [hx]; exact hs)]
      exact B.stab _ _ _ (B.stab _ _ _ hI fr1) (frs _)
    by_cases h1 : x = []
    · have h1' : (x ≠ []) = False := by simp [h1]
      simp only [stC1, c_path_steps_1, subC, go_sem, W_cond, WO_guard2, WE_guard2, WQ_guard2, W_regD, KB_n, KB_x, Nat.reduceBEq, Nat.reduceAdd, Nat.reduceLT, Nat.reduceLeDiff, Nat.reduceEqDiff, reduceIte, Int.reduceEq, reduceCtorEq, g2, h1']
      exact hno (by simp [stepOk, h1]) _
    · have h1' : (x ≠ []) = True := by simp [h1]
      by_cases h2 : x = [46]
      · have h2' : (x ≠ [46]) = False := by simp [h2]
        simp only [stC1, c_path_steps_1, subC, go_sem, W_cond, WO_guard2, WE_guard2, WQ_guard2, W_regD, KB_n, KB_x, Nat.reduceBEq, Nat.reduceAdd, Nat.reduceLT, Nat.reduceLeDiff, Nat.reduceEqDiff, reduceIte, Int.reduceEq, reduceCtorEq, g2, h1', h2']
        exact hno (by simp [stepOk, h2]) _
      · have h2' : (x ≠ [46]) = True := by simp [h2]
        have hs : stepOk x = true := by simp [stepOk, h1, h2]
        obtain ⟨hc, hcx⟩ := step_at hj' (by rw [hx]; exact hs)
        obtain ⟨bb, q2, hstep, ht2, hf2, hov2, hw2, hnb2, hnt2, hkeep2⟩ := B.step (cnt l j) (by simpa using hc) q1 (B.stab _ _ _ hI fr1) ov1 w1 (by omega) (by omega)
        have hLx : ((stepsL l).map AV.s)[cnt l j]'(by simpa using hc) = .s x := by rw [List.getElem_map, hcx, hx]
        rw [hLx] at hstep
        have b2k : q2.box? k1 = q1.box? k1 := hkeep2 k1 (.inr hk1) (by omega)
        rw [b1k] at b2k
        have b2y : q2.box? idy = some (.cells 39 [.yld ky]) := by rw [hkeep2 idy (.inr hyh) (by omega)]; exact hyb1
        have bx3 : ∀ B i, (q2.setBox k1 B).box? i = if i = k1 then some B else q2.box? i := fun B i => setBox_box? hw2.b (by omega) i
        have frs2 : ∀ B, Fr O h tB q2 (q2.setBox k1 B) := fun B => Fr.setBox hw2 (by omega) (.inl hk1) (by omega) _
        have keep2 : ∀ i, (O1 i ∨ k1 + 1 ≤ i) → i < q.nb → q2.box? i = q.box? i := fun i hi hlt => by
          rw [hkeep2 i (.inr (by rcases hi with hi | hi; exact (hO1 i hi).1; omega)) (by omega)]
          exact keep1 i hi hlt
        cases bb with
        | true =>
          simp only [stC1, c_path_steps_1, subC, go_sem, W_cond, WO_guard2, WE_guard2, WQ_guard2, W_regD, KB_n, KB_x, Nat.reduceBEq, Nat.reduceAdd, Nat.reduceLT, Nat.reduceLeDiff, Nat.reduceEqDiff, reduceIte, Int.reduceEq, reduceCtorEq, g2, h1', h2', Nat.zero_add, ldy, hstep]
          refine round_end b2k (by omega) hw2 hov2 h0 (by omega) (by omega) hO1k keep2 (fun _ => ⟨?_, by rw [bx3, if_pos rfl]; rfl, by rw [bx3, if_neg (by omega)]; exact b2y⟩) (fun hh => by simp at hh) (fun i hh => by simp at hh)
          rw [cnt_yes hj' (by rw [hx]; exact hs)]
          exact B.stab _ _ _ (ht2 rfl) (frs2 _)
        | false =>
          simp only [stC1, c_path_steps_1, subC, go_sem, W_cond, WO_guard2, WE_guard2, WQ_guard2, W_regD, KB_n, KB_x, Nat.reduceBEq, Nat.reduceAdd, Nat.reduceLT, Nat.reduceLeDiff, Nat.reduceEqDiff, reduceIte, Int.reduceEq, reduceCtorEq, g2, h1', h2', Nat.zero_add, ldy, hstep]
          exact round_end b2k (by omega) hw2 hov2 h0 (by omega) (by omega) hO1k keep2 (fun hh => by simp at hh) (fun _ => ⟨B.stabR _ _ (hf2 rfl) (frs2 _), _, _, _, _, by rw [bx3, if_pos rfl]⟩) (fun i hh => by simp at hh)
end Go.Proofs.YtkkfjoiffcmpeaaDoor

/-
  Steps and Clean.
-/
set_option maxRecDepth 100000
set_option linter.unusedSimpArgs false
set_option linter.constructorNameAsVariable false
namespace Go.Proofs.YtkkfjoiffcmpeaaDoor
open Go.Proofs.YtkkfjoiffcmpeaaDoor.Am
theorem steps_ok (l : List Nat) (s : St) : (lim prog).call f_path_steps [.s l] s = some (.fn f_path_steps_1 [.p s.nb 0], { s.new (.cells 9 [.s l]) with lo := min s.lo s.nb }) := by
  obtain ⟨r, s', h, rfl, rfl⟩ := fn_G (f := f_path_steps) (args := [.s l]) (s := s) (Post := fun r s' => r = .fn f_path_steps_1 [.p s.nb 0] ∧ s' = { s.new (.cells 9 [.s l]) with lo := min s.lo s.nb }) p_path_steps rfl rfl (by
    have c1 : (AV.s l).cells = [.s l] := rfl
    have hl1 : ∀ a : AV, [a].length = 1 := fun _ => rfl
    simp only [c_path_steps, go_sem, W_cond, WO_guard2, WE_guard2, WQ_guard2, W_regD, KB_n, KB_x, Nat.reduceBEq, Nat.reduceAdd, Nat.reduceLT, Nat.reduceLeDiff, Nat.reduceEqDiff, reduceIte, Int.reduceEq, reduceCtorEq, c1, hl1]
    exact ⟨_, _, rfl, rfl, leave_refs rfl⟩)
  exact h
theorem stepsIter {O : Nat → Prop} {m a : Nat} {l : List Nat} (hl : Txt l) {s : St} (ha : s.box? a = some (.cells 9 [.s l])) (la : a < s.nb) : IterOk prog O m f_path_steps_1 [.p a 0] ((stepsL l).map .s) s := by
  intro s0 h tB ky I R B hI hov hw hh ht h0 _
  obtain ⟨r, s', hcall, rfl, hres⟩ := fn_G (f := f_path_steps_1) (args := [.yld ky, .p a 0]) (s := s) (Post := fun r s' => r = .tup [] ∧ Over s0 s' ∧ Wf s' ∧ s.nb ≤ s'.nb ∧ s.nt ≤ s'.nt ∧ (I (stepsL l).length s' ∨ R s')) p_path_steps_1 rfl rfl (by
    have hend : ∀ q, Over s0 q → Wf q → s.nb ≤ q.nb → s.nt ≤ q.nt → (I (stepsL l).length q ∨ R q) → KH s [] (fun r s' => r = .tup [] ∧ Over s0 s' ∧ Wf s' ∧ s.nb ≤ s'.nb ∧ s.nt ≤ s'.nt ∧ (I (stepsL l).length s' ∨ R s')) (some ([], q)) := fun q k1 k2 k3 k4 k5 => by
      obtain ⟨f1, f2, f3, f4, f5⟩ := leave_fr (O := O) (h := h) (tB := tB) (v := .tup []) k2 hh k3 k4 ht rfl
      refine ⟨_, _, rfl, rfl, f5 s0 hov k1, f2, f3, f4, k5.imp (fun k => B.stab _ _ _ k f1) fun k => B.stabR _ _ k f1⟩
    obtain ⟨q1, hq1⟩ : ∃ q1, s.enter.new (.cells 39 [.yld ky]) = q1 := ⟨_, rfl⟩
    have w1 : Wf q1 := by rw [← hq1]; exact hw.enter.new _
    have n1 : q1.nb = s.nb + 1 ∧ q1.nt = s.nt ∧ q1.lo = s.nb := by rw [← hq1]; exact ⟨rfl, rfl, rfl⟩
    have ov1 : Over s0 q1 := by rw [← hq1]; exact hov.toEnter.new _
    have f1 : Fr0 O h s q1 := by rw [← hq1]; exact (Fr0.enter hh).trans ((Fr.new (tB := tB) (q := s.enter) hh _).to0 (Nat.le_refl _))
    have bx1 : ∀ i, i < s.nb → q1.box? i = s.box? i := fun i hi => by rw [← hq1]; exact new_box_lt (s := s.enter) hi
    have by1 : q1.box? s.nb = some (.cells 39 [.yld ky]) := by rw [← hq1]; exact new_box_self s.enter _
    have lda := ld_box (s := q1) (v := .s l) (off := 0) (by rw [bx1 a la]; exact ha) rfl
    have c1 : (AV.yld ky).cells = [.yld ky] := rfl
    have hl1 : ∀ a : AV, [a].length = 1 := fun _ => rfl
    have hnb : s.enter.nb = s.nb := rfl
    have hss := SplitSeq_ok l q1
    obtain ⟨q2, hq2⟩ : ∃ q2, ({ ((q1.new (.cells 9 [.s l])).new (.cells 9 [.s [47]])).new (.cells 3 [.i .i64 0]) with lo := min q1.lo q1.nb } : St) = q2 := ⟨_, rfl⟩
    rw [hq2] at hss
    have w2 : Wf q2 := by rw [← hq2]; exact (((w1.new _).new _).new _).lo _
    have n2 : q2.nb = s.nb + 4 ∧ q2.nt = s.nt := by rw [← hq2]; exact ⟨by show q1.nb + 1 + 1 + 1 = _; omega, n1.2.1⟩
    have ov2 : Over s0 q2 := by rw [← hq2]; exact Over.setLo (((ov1.new _).new _).new _) (by have := ov1.lo; have := ov1.nb; omega)
    have f2 : Fr0 O h q1 q2 := by
      have g1 : Fr0 O h q1 (((q1.new (.cells 9 [.s l])).new (.cells 9 [.s [47]])).new (.cells 3 [.i .i64 0])) := ((Fr.new (tB := tB) (by omega) _).to0 (Nat.le_refl _)).trans (((Fr.new (tB := tB) (by simp [St.new]; omega) _).to0 (Nat.le_refl _)).trans ((Fr.new (tB := tB) (by simp [St.new]; omega) _).to0 (Nat.le_refl _)))
      rw [← hq2]
      exact g1.trans (Fr0.lo (by simp [St.new]; omega) _)
    have bx2 : ∀ i, i < q1.nb → q2.box? i = q1.box? i := fun i hi => by
      rw [← hq2]
      show (((q1.new _).new _).new _).box? i = _
      rw [new_box_lt (by simp [St.new]; omega), new_box_lt (by simp [St.new]; omega), new_box_lt hi]
    have bb2 : q2.box? q1.nb = some (.cells 9 [.s l]) := by
      rw [← hq2]
      show (((q1.new _).new _).new _).box? q1.nb = _
      rw [new_box_lt (by simp [St.new]; omega), new_box_lt (by simp [St.new])]
      exact new_box_self _ _
    have ba2 : q2.box? (q1.nb + 1) = some (.cells 9 [.s [47]]) := by
      rw [← hq2]
      show (((q1.new _).new _).new _).box? (q1.nb + 1) = _
      rw [new_box_lt (by simp [St.new])]
      exact new_box_self (q1.new _) _
    have bc2 : q2.box? (q1.nb + 2) = some (.cells 3 [.i .i64 0]) := by
      rw [← hq2]
      exact new_box_self ((q1.new _).new _) _
    simp only [c_path_steps_1, go_sem, W_cond, WO_guard2, WE_guard2, WQ_guard2, W_regD, KB_n, KB_x, Nat.reduceBEq, Nat.reduceAdd, Nat.reduceLT, Nat.reduceLeDiff, Nat.reduceEqDiff, reduceIte, Int.reduceEq, reduceCtorEq, c1, hl1, hnb, hq1, lda, hss]
    refine W_cut (fun e => e.get 2 = .p s.nb 0 ∧ e.get 5 = .fn f_strings_splitSeq_1 [.p (q1.nb + 1) 0, .p q1.nb 0, .p (q1.nb + 2) 0]) ⟨?_, ?_⟩ ?_
    · simp only [go_sem, W_cond, WO_guard2, WE_guard2, WQ_guard2, W_regD, KB_n, KB_x, Nat.reduceBEq, Nat.reduceAdd, Nat.reduceLT, Nat.reduceLeDiff, Nat.reduceEqDiff, reduceIte, Int.reduceEq, reduceCtorEq]
    · simp only [go_sem, W_cond, WO_guard2, WE_guard2, WQ_guard2, W_regD, KB_n, KB_x, Nat.reduceBEq, Nat.reduceAdd, Nat.reduceLT, Nat.reduceLeDiff, Nat.reduceEqDiff, reduceIte, Int.reduceEq, reduceCtorEq]
    rintro e ⟨g2, g5⟩
    obtain ⟨q3, hq3⟩ : ∃ q3, q2.new (.loop 0 none e [6] stA1 stC1) = q3 := ⟨_, rfl⟩
    have w3 : Wf q3 := by rw [← hq3]; exact w2.new _
    have n3 : q3.nb = s.nb + 5 ∧ q3.nt = s.nt := by rw [← hq3]; exact ⟨by show q2.nb + 1 = _; omega, n2.2⟩
    have ov3 : Over s0 q3 := by rw [← hq3]; exact ov2.new _
    have bx3 : ∀ i, i < q2.nb → q3.box? i = q2.box? i := fun i hi => by rw [← hq3]; exact new_box_lt hi
    have bk3 : q3.box? q2.nb = some (.loop 0 none e [6] stA1 stC1) := by rw [← hq3]; exact new_box_self _ _
    have f3 : Fr0 O h q2 q3 := by rw [← hq3]; exact (Fr.new (tB := tB) (by omega) _).to0 (Nat.le_refl _)
    have hs0 := hov.nb
    have hit := splitIter hl (s := q3) (a := q1.nb + 1) (b := q1.nb) (c := q1.nb + 2) (by rw [bx3 _ (by omega)]; exact ba2) (by rw [bx3 _ (by omega)]; exact bb2) (by rw [bx3 _ (by omega)]; exact bc2) (by omega) (by omega) (by omega) (by omega) (by omega)
    obtain ⟨q4, hc4, ov4, w4, n4, t4, hI4⟩ := hit s0 (q2.nb + 1) tB q2.nb _ _ (stepsBody (idy := s.nb) (k1 := q2.nb) (e := e) B (by omega) (by omega) hh (fun j hj => by rcases hj with rfl | rfl | rfl <;> omega) (by omega) g2)
      ⟨B.stab0 _ _ (B.stab0 _ _ (B.stab0 _ _ hI f1) f2) f3, bk3, by rw [bx3 _ (by omega), bx2 _ (by omega)]; exact by1⟩ ov3 w3 (by omega) (by omega) (by omega) (by omega)
    rw [← hq3] at hc4
    have fr4 : ∀ x, Fr O h tB q4 (q4.setBox q2.nb x) := fun x => Fr.setBox w4 (by omega) (.inl (by omega)) (by omega) _
    have e4 : ∀ x, KH s [] (fun r s' => r = .tup [] ∧ Over s0 s' ∧ Wf s' ∧ s.nb ≤ s'.nb ∧ s.nt ≤ s'.nt ∧ (I (stepsL l).length s' ∨ R s')) (some ([], q4.setBox q2.nb x)) := fun x =>
      hend _ (Over.setBox ov4 (by omega) (by omega) _) (w4.setBox _ _) (by show s.nb ≤ q4.nb; omega) (by show s.nt ≤ q4.nt; omega) (by
        rcases hI4 with ⟨k1, _⟩ | ⟨k1, _⟩
        · rw [List.length_map, cnt_all] at k1; exact .inl (B.stab _ _ _ k1 (fr4 _))
        · exact .inr (B.stabR _ _ k1 (fr4 _)))
    refine W_rf g5 hc4 ?_
    rcases hI4 with ⟨_, k2, _⟩ | ⟨_, tm, ps, a', b', k2⟩
    · refine ⟨_, _, _, _, _, _, k2, by decide, ?_⟩
      simp only [go_sem, W_cond, WO_guard2, WE_guard2, WQ_guard2, W_regD, KB_n, KB_x, Nat.reduceBEq, Nat.reduceAdd, Nat.reduceLT, Nat.reduceLeDiff, Nat.reduceEqDiff, reduceIte, Int.reduceEq, reduceCtorEq]
      exact e4 _
    · refine ⟨_, _, _, _, _, _, k2, by decide, ?_⟩
      simp only [go_sem, W_cond, WO_guard2, WE_guard2, WQ_guard2, W_regD, KB_n, KB_x, Nat.reduceBEq, Nat.reduceAdd, Nat.reduceLT, Nat.reduceLeDiff, Nat.reduceEqDiff, reduceIte, Int.reduceEq, reduceCtorEq]
      exact e4 _)
  obtain ⟨k1, k2, k3, k4, k5⟩ := hres
  exact ⟨s', hcall, k1, k2, k3, k4, by simpa using k5⟩
/-! ### Clean -/
theorem segs_len : ∀ (l cur : List Nat), (segs cur l).length ≤ l.length + 1
  | [], cur => by simp [segs]
  | c :: l, cur => by
    unfold segs
    split
    · have := segs_len l []
      simp; omega
    · have := segs_len l (cur ++ [c])
      simp only [List.length_cons]; omega
theorem stepsL_len (l : List Nat) : (stepsL l).length ≤ l.length + 1 := by
  unfold stepsL splitL
  exact Nat.le_trans (List.length_filter_le _ _) (segs_len l [])
end Go.Proofs.YtkkfjoiffcmpeaaDoor

/-
  Steps.
-/
set_option maxRecDepth 100000
set_option linter.unusedSimpArgs false
set_option linter.constructorNameAsVariable false
namespace Go.Proofs.YtkkfjoiffcmpeaaDoor
open Go.Proofs.YtkkfjoiffcmpeaaDoor.Am
theorem refs_s' : ∀ L : List (List Nat), AV.refs.go (L.map AV.s) = false
  | [] => rfl
  | x :: L => by simp only [List.map_cons, AV.refs.go, AV.refs, Bool.false_or]; exact refs_s' L
theorem wkM_s' : ∀ L : List (List Nat), wkM .id (L.map AV.s) = L.map AV.s
  | [] => by simp [wkM]
  | x :: L => by simp only [List.map_cons, wkM, wk, wkM_s' L]
abbrev apA : C := subC c_slices_AppendSeq_string_string.body [1, 0, 1, 0, 0]
abbrev apC : C := subC c_slices_AppendSeq_string_string.body [1, 0, 1, 0, 1]
def AI (L : List (List Nat)) (s : St) (k ido : Nat) (e : Tr) (j : Nat) (q : St) : Prop :=
  q.box? k = some (.loop 0 none e [7] apA apC) ∧ RP 1 (k + 1) s.nt s.nt 9 22 ido ((L.take j).map .s) q ∧ (j = 0 → q.box? ido = some (.cells 22 [.nsl]))
theorem apBody {L : List (List Nat)} {s : St} {k ido : Nat} {e : Tr} (hido : ido < k) (hs : s.nb ≤ ido) (hl : L.length < 2 ^ 37) (g2 : e.get 2 = .p ido 0) :
    Body prog (fun _ => False) s (k + 1) s.nt (.yld k) (L.map .s) (AI L s k ido e) (fun _ => False) where
  stab := fun j q q' ⟨h1, h2, h3⟩ f => ⟨by rw [f.box k (by omega) (by simp)]; exact h1, h2.fr (by omega) (by simp) f, fun hj => by rw [f.box ido (by omega) (by simp)]; exact h3 hj⟩
  stab0 := fun q q' h f => ⟨by rw [f.box k (by omega) (by simp)]; exact h.1, h.2.1.fr0 (fun a k' h1 h2 => by rw [h.2.2 rfl] at h1; cases h1; simp [rowTok] at h2) (by omega) (by simp) f, fun hj => by rw [f.box ido (by omega) (by simp)]; exact h.2.2 hj⟩
  stabR := fun _ _ h _ => h
  step := by
    intro j hj q ⟨hk, hI, _⟩ hov hw hh ht
    have hj' : j < L.length := by simpa using hj
    have hLj : (L.map AV.s)[j] = .s L[j] := by simp
    rw [hLj]
    obtain ⟨x, hx⟩ : ∃ x, L[j] = x := ⟨_, rfl⟩
    rw [hx]
    have hst : L.take (j + 1) = L.take j ++ [x] := by rw [List.take_succ_eq_append_getElem hj', hx]
    have hylen : (L.take j).length ≤ L.length := by simp; omega
    obtain ⟨Y, hY⟩ : ∃ Y, L.take j = Y := ⟨_, rfl⟩
    rw [hY] at hI hst hylen
    obtain ⟨q1, hq1⟩ : ∃ q1, q.setBox k (.loop 1 none e [7] apA apC) = q1 := ⟨_, rfl⟩
    have w1 : Wf q1 := by rw [← hq1]; exact hw.setBox _ _
    have nb1 : q1.nb = q.nb ∧ q1.nt = q.nt ∧ q1.lo = q.lo := by rw [← hq1]; exact ⟨rfl, rfl, rfl⟩
    have bx1 : ∀ i, q1.box? i = if i = k then some (.loop 1 none e [7] apA apC) else q.box? i := fun i => by rw [← hq1]; exact setBox_box? hw.b (by omega) i
    have ov1 : Over s q1 := by rw [← hq1]; exact Over.setBox hov (by omega) (by omega) _
    obtain ⟨a, hb, hr, htok⟩ := hI
    have hb1 : q1.box? ido = some (.cells 22 [a]) := by rw [bx1, if_neg (by omega)]; exact hb
    have hr1 : RowP 1 s.nt q1 9 a (Y.map .s) := hr.mono (by omega) fun k _ => by rw [← hq1]; rfl
    have lda := ld_box (s := q1) (v := a) (off := 0) hb1 rfl
    have b1k := bx1 k
    rw [if_pos rfl] at b1k
    have hel : elems q1 1 (.sl 1 [.s x] .full) = some [.s x] := by simp [elems, St.ok]
    have al : allLen 1 [AV.s x] = true := rfl
    obtain ⟨a', q2, e2, hr2, hg, href, hc⟩ := app_rowP w1 (by omega) hr1 hel (by simp) (by simp; omega)
    have hm : Y.map AV.s ++ [AV.s x] = (Y ++ [x]).map .s := by simp
    rw [hm] at hr2
    obtain ⟨q3, e3, r3, nb3, nt3, w3, bx3, ov3⟩ := RP.store (h := k + 1) (tB := s.nt) hb1 hg hr2 hc href w1 (by omega) (by omega)
    have b3k : q3.box? k = some (.loop 1 none e [7] apA apC) := by rw [bx3 k (by omega)]; exact b1k
    have hfin : ∀ e' : Tr, YK k (RoundK (fun _ => False) (k + 1) s q (AI L s k ido e (j + 1)) (fun _ => False)) .n e' q3 := fun e' => by
      refine round_end b3k (by omega) w3 (ov3 s hs (Nat.le_refl _) (by omega) ov1) (by omega) (by omega) (by omega) (by simp) (fun i hi hlt => by have hi' : k + 1 ≤ i := hi.resolve_left id; rw [bx3 i (by omega), bx1, if_neg (by omega)]) (fun _ => ⟨?_, ?_, fun hh => by simp at hh⟩) (fun hh => by simp at hh) (fun i hh => by simp at hh)
      · rw [setBox_box? w3.b (by omega), if_pos rfl]
      · rw [hst]
        exact r3.fr (O := fun i => i = k) (by omega) (show ¬ (ido = k) by omega) (Fr.setBox (O := fun i => i = k) (tB := s.nt) (h := k + 1) (id := k) w3 (by omega) (.inr rfl) (by omega) _)
    refine round_step ?_
    refine callY_W (t := e.set 10 7 (.s x)) hk rfl ?_
    simp only [apA, c_slices_AppendSeq_string_string, subC, go_sem, W_cond, WO_guard2, WE_guard2, WQ_guard2, W_regD, KB_n, KB_x, Nat.reduceBEq, Nat.reduceAdd, Nat.reduceLT, Nat.reduceLeDiff, Nat.reduceEqDiff, reduceIte, Int.reduceEq, reduceCtorEq]
    refine ⟨_, _, _, _, hk, ?_⟩
    rw [hq1]
    have hz : a = .nsl ∨ ∃ k v, a = .sl 1 (Y.map .s) (.tok k v) := by
      rcases hr with ⟨rfl, _⟩ | ⟨k, v, t, rfl, _⟩
      · exact .inl rfl
      · exact .inr ⟨k, v, rfl⟩
    rcases hz with rfl | ⟨k', v, rfl⟩ <;>
      (simp only [apC, c_slices_AppendSeq_string_string, subC, go_sem, W_cond, WO_guard2, WE_guard2, WQ_guard2, W_regD, KB_n, KB_x, Nat.reduceBEq, Nat.reduceAdd, Nat.reduceLT, Nat.reduceLeDiff, Nat.reduceEqDiff, reduceIte, Int.reduceEq, reduceCtorEq, g2, Nat.zero_add, lda, al, e2, e3]
       exact hfin _)
end Go.Proofs.YtkkfjoiffcmpeaaDoor

/-
  Places as paths.
-/
set_option maxRecDepth 100000
set_option linter.unusedSimpArgs false
namespace Go.Proofs.YtkkfjoiffcmpeaaDoor
open Go.Proofs.YtkkfjoiffcmpeaaDoor.Am
def rows (L : List (List Nat)) : List Nat := L.flatMap fun x => 47 :: x
structure Sh (L : List (List Nat)) : Prop where
  n : L.length ≤ 100
  l : ∀ x ∈ L, x.length ≤ 500
structure ShB (L : List (List Nat)) : Prop where
  n : L.length ≤ 100000
  l : ∀ x ∈ L, x.length ≤ 99999
theorem Sh.b {L : List (List Nat)} (h : Sh L) : ShB L := ⟨by have := h.n; omega, fun x hx => by have := h.l x hx; omega⟩
end Go.Proofs.YtkkfjoiffcmpeaaDoor

/-
  The plain law of PathCleans.
-/
set_option maxRecDepth 100000
set_option linter.unusedSimpArgs false
namespace Go.Proofs.YtkkfjoiffcmpeaaDoor
open Go.Proofs.YtkkfjoiffcmpeaaDoor.Am
theorem segs_app : ∀ (a cur b : List Nat), segs cur (a ++ 47 :: b) = segs cur a ++ segs [] b
  | [], cur, b => by simp [segs]
  | c :: a, cur, b => by
    show (if c = 47 then cur :: segs [] (a ++ 47 :: b) else segs (cur ++ [c]) (a ++ 47 :: b)) = (if c = 47 then cur :: segs [] a else segs (cur ++ [c]) a) ++ segs [] b
    by_cases h : c = 47
    · rw [if_pos h, if_pos h, segs_app a [] b]; rfl
    · rw [if_neg h, if_neg h, segs_app a _ b]
theorem split_app (a b : List Nat) : splitL (a ++ 47 :: b) = splitL a ++ splitL b := segs_app a [] b
structure Stp (x : List Nat) : Prop where
  ok : stepOk x = true
  no : 47 ∉ x
theorem segs_mem : ∀ (l cur : List Nat), 47 ∉ cur → ∀ x ∈ segs cur l, 47 ∉ x ∧ x.length ≤ cur.length + l.length ∧ ∀ n ∈ x, n ∈ cur ∨ n ∈ l
  | [], cur, h, x, hx => by
    simp only [segs, List.mem_singleton] at hx
    subst hx
    exact ⟨h, by simp, fun n hn => .inl hn⟩
  | c :: l, cur, h, x, hx => by
    have hx' : x ∈ (if c = 47 then cur :: segs [] l else segs (cur ++ [c]) l) := hx
    by_cases hc : c = 47
    · rw [if_pos hc] at hx'
      rcases List.mem_cons.1 hx' with rfl | hx'
      · exact ⟨h, by omega, fun n hn => .inl hn⟩
      · obtain ⟨h1, h2, h3⟩ := segs_mem l [] (by simp) x hx'
        exact ⟨h1, by simp at h2 ⊢; omega, fun n hn => .inr (by rcases h3 n hn with h | h; simp at h; exact List.mem_cons_of_mem _ h)⟩
    · rw [if_neg hc] at hx'
      obtain ⟨h1, h2, h3⟩ := segs_mem l (cur ++ [c]) (by simp [h, Ne.symm hc]) x hx'
      refine ⟨h1, by simp at h2 ⊢; omega, fun n hn => ?_⟩
      rcases h3 n hn with h | h
      · rcases List.mem_append.1 h with h | h
        · exact .inl h
        · exact .inr (by simp at h; simp [h])
      · exact .inr (List.mem_cons_of_mem _ h)
theorem stepsL_mem {l x : List Nat} (h : x ∈ stepsL l) : Stp x ∧ x.length ≤ l.length ∧ ∀ n ∈ x, n ∈ l := by
  unfold stepsL at h
  obtain ⟨h1, h2⟩ := List.mem_filter.1 h
  obtain ⟨h3, h4, h5⟩ := segs_mem l [] (by simp) x h1
  exact ⟨⟨h2, h3⟩, by simpa using h4, fun n hn => by rcases h5 n hn with h | h; simp at h; exact h⟩
/-! ### The place's path -/
/-! ### Ties -/
end Go.Proofs.YtkkfjoiffcmpeaaDoor

/-
  The document's functions of layer 6.
-/
set_option maxRecDepth 100000
set_option linter.unusedSimpArgs false
set_option linter.constructorNameAsVariable false
namespace Go.Proofs.YtkkfjoiffcmpeaaDoor
open Go.Proofs.YtkkfjoiffcmpeaaDoor.Am
theorem anyK_or (l : List Nat) : anyK l = false ↔ ∀ (i : Nat) (h : i < l.length), l[i] ≠ 0 ∧ l[i] ≠ 47 ∧ l[i] ≠ 10 := by
  constructor
  · intro h i hi
    unfold anyK at h
    rw [List.any_eq_false] at h
    have := h l[i] (List.getElem_mem hi)
    simp only [List.mem_cons, List.not_mem_nil, or_false, decide_eq_true_eq, not_or] at this
    exact ⟨this.2.1, this.1, this.2.2⟩
  · intro h
    refine anyK_false fun i hi => ?_
    obtain ⟨h1, h2, h3⟩ := h i hi
    simp [h1, h2, h3]
theorem refName_ok (l : List Nat) (hl : l.length < 2 ^ 63) (s : St) : (lim prog).call f_touchstoneref06_Name [.s l] s = some (.b (nameP l), s) := by
  refine fn_W p_touchstoneref06_Name rfl rfl ?_
  have hk : ∀ b, b = nameP l → KR s [CT.id] (.b (nameP l)) (some ([.b b], s.enter)) := fun b hb => KR_some (Over.enter s) rfl (by rw [hb]; rfl)
  by_cases h1 : l = []
  · have h1' : (l = []) = True := by simp [h1]
    simp only [c_touchstoneref06_Name, go_sem, W_cond, WO_guard2, WE_guard2, WQ_guard2, W_regD, KB_n, KB_x, Nat.reduceBEq, Nat.reduceAdd, Nat.reduceLT, Nat.reduceLeDiff, Nat.reduceEqDiff, reduceIte, Int.reduceEq, reduceCtorEq, h1']
    exact hk _ (by simp [nameP, h1])
  have h1' : (l = []) = False := by simp [h1]
  by_cases h2 : (64 : Int) < (l.length : Int)
  · simp only [c_touchstoneref06_Name, go_sem, W_cond, WO_guard2, WE_guard2, WQ_guard2, W_regD, KB_n, KB_x, Nat.reduceBEq, Nat.reduceAdd, Nat.reduceLT, Nat.reduceLeDiff, Nat.reduceEqDiff, reduceIte, Int.reduceEq, reduceCtorEq, h1', ofNat_len, h2]
    exact hk _ (by have : ¬ l.length ≤ 64 := by omega
                   simp [nameP, this])
  by_cases h3 : l = [46]
  · have h3' : (l = [46]) = True := by simp [h3]
    simp only [c_touchstoneref06_Name, go_sem, W_cond, WO_guard2, WE_guard2, WQ_guard2, W_regD, KB_n, KB_x, Nat.reduceBEq, Nat.reduceAdd, Nat.reduceLT, Nat.reduceLeDiff, Nat.reduceEqDiff, reduceIte, Int.reduceEq, reduceCtorEq, h1', ofNat_len, h2, h3']
    exact hk _ (by simp [nameP, h3])
  have h3' : (l = [46]) = False := by simp [h3]
  by_cases h4 : l = [46, 46]
  · have h4' : (l = [46, 46]) = True := by simp [h4]
    simp only [c_touchstoneref06_Name, go_sem, W_cond, WO_guard2, WE_guard2, WQ_guard2, W_regD, KB_n, KB_x, Nat.reduceBEq, Nat.reduceAdd, Nat.reduceLT, Nat.reduceLeDiff, Nat.reduceEqDiff, reduceIte, Int.reduceEq, reduceCtorEq, h1', ofNat_len, h2, h3', h4']
    exact hk _ (by simp [nameP, h4])
  have h4' : (l = [46, 46]) = False := by simp [h4]
  have hle : l.length ≤ 64 := by omega
  have hN : nameP l = !anyK l := by simp [nameP, h1, h3, h4, hle]
  simp only [c_touchstoneref06_Name, go_sem, W_cond, WO_guard2, WE_guard2, WQ_guard2, W_regD, KB_n, KB_x, Nat.reduceBEq, Nat.reduceAdd, Nat.reduceLT, Nat.reduceLeDiff, Nat.reduceEqDiff, reduceIte, Int.reduceEq, reduceCtorEq, h1', ofNat_len, h2, h3', h4']
  refine W_loop (fun n e q => s.enter = q ∧ e.get 0 = .s l ∧ ∃ i : Nat, i + n = l.length ∧ e.get 3 = .i .i64 i ∧ ∀ (j : Nat) (h : j < l.length), j < i → l[j] ≠ 0 ∧ l[j] ≠ 47 ∧ l[j] ≠ 10) ?_ l.length _ _ ?_
  · rintro n e q ⟨rfl, g0, i, hi, g3, hno⟩
    simp only [go_sem, W_cond, WO_guard2, WE_guard2, WQ_guard2, W_regD, KB_n, KB_x, Nat.reduceBEq, Nat.reduceAdd, Nat.reduceLT, Nat.reduceLeDiff, Nat.reduceEqDiff, reduceIte, Int.reduceEq, reduceCtorEq, g0, g3, ofNat_len]
    refine CP_dec (fun hlt => ?_) (fun hge => ?_)
    · have hlt : i < l.length := by omega
      have hget : l[i]? = some l[i] := List.getElem?_eq_getElem hlt
      obtain ⟨c, hc⟩ : ∃ c, l[i] = c := ⟨_, rfl⟩
      rw [hc] at hget
      have hbad : c ∈ K3 → nameP l = false := fun hm => by rw [hN, anyK_of hlt (by rw [hc]; exact hm)]; rfl
      by_cases c0 : c = 0
      · have c0' : ((c : Int) = 0) = True := by simp [c0]
        simp only [go_sem, W_cond, WO_guard2, WE_guard2, WQ_guard2, W_regD, KB_n, KB_x, Nat.reduceBEq, Nat.reduceAdd, Nat.reduceLT, Nat.reduceLeDiff, Nat.reduceEqDiff, reduceIte, Int.reduceEq, reduceCtorEq, g0, g3, natOf_i64, hget, ofNat_len, c0']
        exact hk _ (hbad (by simp [c0])).symm
      have c0' : ((c : Int) = 0) = False := by simp; omega
      by_cases c1 : c = 47
      · have c1' : ((c : Int) = 47) = True := by simp; omega
        simp only [go_sem, W_cond, WO_guard2, WE_guard2, WQ_guard2, W_regD, KB_n, KB_x, Nat.reduceBEq, Nat.reduceAdd, Nat.reduceLT, Nat.reduceLeDiff, Nat.reduceEqDiff, reduceIte, Int.reduceEq, reduceCtorEq, g0, g3, natOf_i64, hget, ofNat_len, c0', c1']
        exact hk _ (hbad (by simp [c1])).symm
      have c1' : ((c : Int) = 47) = False := by simp; omega
      by_cases c2 : c = 10
      · have c2' : ((c : Int) = 10) = True := by simp; omega
        simp only [go_sem, W_cond, WO_guard2, WE_guard2, WQ_guard2, W_regD, KB_n, KB_x, Nat.reduceBEq, Nat.reduceAdd, Nat.reduceLT, Nat.reduceLeDiff, Nat.reduceEqDiff, reduceIte, Int.reduceEq, reduceCtorEq, g0, g3, natOf_i64, hget, ofNat_len, c0', c1', c2']
        exact hk _ (hbad (by simp [c2])).symm
      have c2' : ((c : Int) = 10) = False := by simp; omega
      simp only [go_sem, W_cond, WO_guard2, WE_guard2, WQ_guard2, W_regD, KB_n, KB_x, Nat.reduceBEq, Nat.reduceAdd, Nat.reduceLT, Nat.reduceLeDiff, Nat.reduceEqDiff, reduceIte, Int.reduceEq, reduceCtorEq, g0, g3, natOf_i64, hget, ofNat_len, c0', c1', c2', wrap_succ (show i + 1 < 2 ^ 63 by omega)]
      refine ⟨n - 1, by omega, i + 1, by omega, rfl, fun j hj hji => ?_⟩
      by_cases hje : j = i
      · subst hje; rw [hc]; exact ⟨c0, c1, c2⟩
      · exact hno j hj (by omega)
    · exact hk _ (by rw [hN, (anyK_or l).2 fun i hi => hno i hi (by omega)]; rfl)
  · simp only [go_sem, W_cond, WO_guard2, WE_guard2, WQ_guard2, W_regD, KB_n, KB_x, Nat.reduceBEq, Nat.reduceAdd, Nat.reduceLT, Nat.reduceLeDiff, Nat.reduceEqDiff, reduceIte, Int.reduceEq, reduceCtorEq]
    exact ⟨0, by omega, rfl, fun j hj h => by omega⟩
end Go.Proofs.YtkkfjoiffcmpeaaDoor

/-
  The document's steps, places, last names.
-/
set_option maxRecDepth 100000
set_option linter.unusedSimpArgs false
set_option linter.constructorNameAsVariable false
namespace Go.Proofs.YtkkfjoiffcmpeaaDoor
open Go.Proofs.YtkkfjoiffcmpeaaDoor.Am
end Go.Proofs.YtkkfjoiffcmpeaaDoor

/-
  Last names, directories.
-/
set_option maxRecDepth 100000
set_option linter.unusedSimpArgs false
set_option linter.constructorNameAsVariable false
namespace Go.Proofs.YtkkfjoiffcmpeaaDoor
open Go.Proofs.YtkkfjoiffcmpeaaDoor.Am
def lastP (l : List Nat) : List Nat := (splitL l).getLastD []
theorem last_none {l : List Nat} (h : 47 ∉ l) : lastP l = l := by unfold lastP; rw [split_none h]; rfl
theorem last_cut {a b : List Nat} (h : 47 ∉ b) : splitL (a ++ 47 :: b) = splitL a ++ [b] := by rw [split_app, split_none h]
theorem getLastD_snoc {α : Type} (L : List α) (x d : α) : (L ++ [x]).getLastD d = x := by simp [List.getLastD_eq_getLast?]
theorem last_of_cut {a b : List Nat} (h : 47 ∉ b) : lastP (a ++ 47 :: b) = b := by unfold lastP; rw [last_cut h, getLastD_snoc]
theorem rcut_of {l : List Nat} (h : 47 ∈ l) : ∃ a b, l = a ++ 47 :: b ∧ 47 ∉ b := by
  induction l with
  | nil => simp at h
  | cons c l ih =>
    by_cases hm : 47 ∈ l
    · obtain ⟨a, b, rfl, h2⟩ := ih hm
      exact ⟨c :: a, b, rfl, h2⟩
    · have hc : c = 47 := by
        rcases List.mem_cons.1 h with h | h
        · exact h.symm
        · exact absurd h hm
      exact ⟨[], l, by simp [hc], hm⟩
theorem last_suffix (l : List Nat) : ∃ a, l = a ++ lastP l := by
  by_cases h : 47 ∈ l
  · obtain ⟨a, b, rfl, hb⟩ := rcut_of h
    exact ⟨a ++ [47], by rw [last_of_cut hb]; simp⟩
  · exact ⟨[], by rw [last_none h]; rfl⟩
theorem last_le (l : List Nat) : (lastP l).length ≤ l.length := by
  obtain ⟨a, h⟩ := last_suffix l
  have := congrArg List.length h
  rw [List.length_append] at this
  omega
theorem last_drop (l : List Nat) : (l.drop (l.length - (lastP l).length)).take (l.length - (l.length - (lastP l).length)) = lastP l := by
  obtain ⟨a, h⟩ := last_suffix l
  obtain ⟨b, hb⟩ : ∃ b, lastP l = b := ⟨_, rfl⟩
  rw [hb] at h ⊢
  rw [h, List.length_append, show a.length + b.length - b.length = a.length by omega, List.drop_left]
  exact List.take_of_length_le (by omega)
def lastIx (l : List Nat) : Int := (l.length : Int) - 1 - (lastP l).length
theorem lastIndexL_ok (l : List Nat) (hl : l.length < 2 ^ 62) (s : St) : (lim prog).call f_internal_bytealg_LastIndexByteString [.s l, .i .u8 47] s = some (.i .i64 (lastIx l), s) := by
  refine fn_W p_internal_bytealg_LastIndexByteString rfl rfl ?_
  have w0 : IntKind.i64.wrap ((l.length : Int) - 1) = (l.length : Int) - 1 := by
    have e : IntKind.i64.wrap ((l.length : Int) - 1) = if (9223372036854775808 : Int) ≤ ((l.length : Int) - 1) % 18446744073709551616 then ((l.length : Int) - 1) % 18446744073709551616 - 18446744073709551616 else ((l.length : Int) - 1) % 18446744073709551616 := by
      simp [IntKind.wrap, IntKind.signed, IntKind.bits]
    rw [e]
    split <;> omega
  simp only [c_internal_bytealg_LastIndexByteString, go_sem, W_cond, WO_guard2, WE_guard2, WQ_guard2, W_regD, KB_n, KB_x, Nat.reduceBEq, Nat.reduceAdd, Nat.reduceLT, Nat.reduceLeDiff, Nat.reduceEqDiff, reduceIte, Int.reduceEq, reduceCtorEq, ofNat_len, w0]
  refine W_loop (fun n e q => s.enter = q ∧ e.get 0 = .s l ∧ e.get 1 = .i .u8 47 ∧ n ≤ l.length ∧ e.get 5 = .i .i64 ((n : Int) - 1) ∧ 47 ∉ l.drop n) ?_ l.length _ _ ?_
  · rintro n e q ⟨rfl, g0, g1, hn, g5, hno⟩
    simp only [go_sem, W_cond, WO_guard2, WE_guard2, WQ_guard2, W_regD, KB_n, KB_x, Nat.reduceBEq, Nat.reduceAdd, Nat.reduceLT, Nat.reduceLeDiff, Nat.reduceEqDiff, reduceIte, Int.reduceEq, reduceCtorEq, g0, g1, g5]
    refine CP_dec (fun hge => ?_) (fun hlt => ?_)
    · obtain ⟨m, rfl⟩ : ∃ m, n = m + 1 := ⟨n - 1, by omega⟩
      have hm : ((m + 1 : Nat) : Int) - 1 = (m : Int) := by omega
      have hget : l[m]? = some l[m] := List.getElem?_eq_getElem (by omega)
      have hdr : l.drop m = l[m] :: l.drop (m + 1) := List.drop_eq_getElem_cons (by omega)
      have w1 : IntKind.i64.wrap ((m : Int) - 1) = (m : Int) - 1 := by
        have e : IntKind.i64.wrap ((m : Int) - 1) = if (9223372036854775808 : Int) ≤ ((m : Int) - 1) % 18446744073709551616 then ((m : Int) - 1) % 18446744073709551616 - 18446744073709551616 else ((m : Int) - 1) % 18446744073709551616 := by
          simp [IntKind.wrap, IntKind.signed, IntKind.bits]
        rw [e]
        split <;> omega
      rw [hm] at g5
      simp only [go_sem, W_cond, WO_guard2, WE_guard2, WQ_guard2, W_regD, KB_n, KB_x, Nat.reduceBEq, Nat.reduceAdd, Nat.reduceLT, Nat.reduceLeDiff, Nat.reduceEqDiff, reduceIte, Int.reduceEq, reduceCtorEq, g0, g1, g5, hm, natOf_i64, hget, ofNat_len]
      refine CP_dec (fun h47 => ?_) (fun h47 => ?_)
      · have h47 : l[m] = 47 := by omega
        have hcut : l = l.take m ++ 47 :: l.drop (m + 1) := by
          conv => lhs; rw [← List.take_append_drop m l, hdr, h47]
        have hlp : lastP l = l.drop (m + 1) := by
          conv => lhs; rw [hcut]
          exact last_of_cut hno
        refine KR_some (Over.enter s) rfl ?_
        have : lastIx l = (m : Int) := by unfold lastIx; rw [hlp]; simp; omega
        rw [this]; rfl
      · simp only [go_sem, W_cond, WO_guard2, WE_guard2, WQ_guard2, W_regD, KB_n, KB_x, Nat.reduceBEq, Nat.reduceAdd, Nat.reduceLT, Nat.reduceLeDiff, Nat.reduceEqDiff, reduceIte, Int.reduceEq, reduceCtorEq, g0, g1, g5, w1]
        refine ⟨m, by omega, by omega, rfl, ?_⟩
        rw [hdr]
        simp only [List.mem_cons, not_or]
        exact ⟨by omega, hno⟩
    · have hn0 : n = 0 := by omega
      subst hn0
      rw [List.drop_zero] at hno
      refine KR_some (Over.enter s) rfl ?_
      have : lastIx l = -1 := by unfold lastIx; rw [last_none hno]; omega
      rw [this]; rfl
  · simp only [go_sem, W_cond, WO_guard2, WE_guard2, WQ_guard2, W_regD, KB_n, KB_x, Nat.reduceBEq, Nat.reduceAdd, Nat.reduceLT, Nat.reduceLeDiff, Nat.reduceEqDiff, reduceIte, Int.reduceEq, reduceCtorEq]
    exact ⟨Nat.le_refl _, by simp⟩
theorem lastIndex_ok (l : List Nat) (hl : l.length < 2 ^ 62) (s : St) : (lim prog).call f_strings_LastIndexByte [.s l, .i .u8 47] s = some (.i .i64 (lastIx l), s) := by
  refine fn_W p_strings_LastIndexByte rfl rfl ?_
  simp only [c_strings_LastIndexByte, go_sem, W_cond, WO_guard2, WE_guard2, WQ_guard2, W_regD, KB_n, KB_x, Nat.reduceBEq, Nat.reduceAdd, Nat.reduceLT, Nat.reduceLeDiff, Nat.reduceEqDiff, reduceIte, Int.reduceEq, reduceCtorEq, lastIndexL_ok l hl]
  exact KR_some (Over.enter s) rfl rfl
def dirP (l : List Nat) : Bool := decide (lastP l = [46]) || (decide (lastP l = [46, 46]) || (decide (lastP l = []) && decide (l ≠ [])))
theorem lastIx_add (l : List Nat) (hl : l.length < 2 ^ 62) : IntKind.i64.wrap (lastIx l + 1) = ((l.length - (lastP l).length : Nat) : Int) := by
  have := last_le l
  have e : lastIx l + 1 = ((l.length - (lastP l).length : Nat) : Int) := by unfold lastIx; omega
  rw [e, wrap_nat (by omega)]
theorem dir_ok (l : List Nat) (hl : l.length < 2 ^ 62) (s : St) : (lim prog).call f_path_Dir [.s l] s = some (.b (dirP l), s) := by
  refine fn_W p_path_Dir rfl rfl ?_
  have hk : ∀ b, b = dirP l → KR s [CT.id] (.b (dirP l)) (some ([.b b], s.enter)) := fun b hb => KR_some (Over.enter s) rfl (by rw [hb]; rfl)
  have hb := bounds_io (len := l.length) (a := l.length - (lastP l).length) (by omega)
  have hd := last_drop l
  obtain ⟨x, hx⟩ : ∃ x, lastP l = x := ⟨_, rfl⟩
  have hadd := lastIx_add l hl
  rw [hx] at hb hd hadd
  have hD : dirP l = (decide (x = [46]) || (decide (x = [46, 46]) || (decide (x = []) && decide (l ≠ [])))) := by unfold dirP; rw [hx]
  by_cases h1 : x = [46]
  · have h1' : (x = [46]) = True := by simp [h1]
    simp only [c_path_Dir, go_sem, W_cond, WO_guard2, WE_guard2, WQ_guard2, W_regD, KB_n, KB_x, Nat.reduceBEq, Nat.reduceAdd, Nat.reduceLT, Nat.reduceLeDiff, Nat.reduceEqDiff, reduceIte, Int.reduceEq, reduceCtorEq, lastIndex_ok l hl, hadd, hb, hd, h1']
    exact hk _ (by rw [hD]; simp [h1])
  have h1' : (x = [46]) = False := by simp [h1]
  by_cases h2 : x = [46, 46]
  · have h2' : (x = [46, 46]) = True := by simp [h2]
    simp only [c_path_Dir, go_sem, W_cond, WO_guard2, WE_guard2, WQ_guard2, W_regD, KB_n, KB_x, Nat.reduceBEq, Nat.reduceAdd, Nat.reduceLT, Nat.reduceLeDiff, Nat.reduceEqDiff, reduceIte, Int.reduceEq, reduceCtorEq, lastIndex_ok l hl, hadd, hb, hd, h1', h2']
    exact hk _ (by rw [hD]; simp [h2])
  have h2' : (x = [46, 46]) = False := by simp [h2]
  by_cases h3 : x = []
  · have h3' : (x = []) = True := by simp [h3]
    simp only [c_path_Dir, go_sem, W_cond, WO_guard2, WE_guard2, WQ_guard2, W_regD, KB_n, KB_x, Nat.reduceBEq, Nat.reduceAdd, Nat.reduceLT, Nat.reduceLeDiff, Nat.reduceEqDiff, reduceIte, Int.reduceEq, reduceCtorEq, lastIndex_ok l hl, hadd, hb, hd, h1', h2', h3']
    exact hk _ (by rw [hD]; simp [h3])
  have h3' : (x = []) = False := by simp [h3]
  simp only [c_path_Dir, go_sem, W_cond, WO_guard2, WE_guard2, WQ_guard2, W_regD, KB_n, KB_x, Nat.reduceBEq, Nat.reduceAdd, Nat.reduceLT, Nat.reduceLeDiff, Nat.reduceEqDiff, reduceIte, Int.reduceEq, reduceCtorEq, lastIndex_ok l hl, hadd, hb, hd, h1', h2', h3']
  exact hk _ (by rw [hD]; simp [h1, h2, h3])
end Go.Proofs.YtkkfjoiffcmpeaaDoor

/-
  Where a path leads, as plain data: the law of walks.
-/
set_option linter.unusedSimpArgs false
set_option linter.constructorNameAsVariable false
namespace Go.Proofs.YtkkfjoiffcmpeaaDoor
open Go.Proofs.YtkkfjoiffcmpeaaDoor.Am
def kindP (T : ND) (pl : List (List Nat)) : Nat := (foundN (findP T pl)).kind
def textP (T : ND) (pl : List (List Nat)) : List Nat := (foundN (findP T pl)).text
inductive WR where
  | ok (pl : List (List Nat)) (k : Nat)
  | err (e : Nat)
def absP (t : List Nat) : Bool := decide (t.head? = some 47)
def walkL (T : ND) (find : Bool) (b : Nat) (left at_ : List (List Nat)) (into : Bool) : WR := match left with
  | [] => .ok at_ 2
  | s :: left =>
    if s = [46, 46] then walkL T find b left at_.dropLast into
    else if kindP T (at_ ++ [s]) = 3 ∧ (left ≠ [] ∨ into = true ∨ find = true) then match b with
      | 0 => .err 61
      | b + 1 => walkL T find b (stepsL (textP T (at_ ++ [s])) ++ left) (if absP (textP T (at_ ++ [s])) = true then [] else at_) (if left = [] then into || dirP (textP T (at_ ++ [s])) else into)
    else if kindP T (at_ ++ [s]) = 2 then walkL T find b left (at_ ++ [s]) into
    else if kindP T (at_ ++ [s]) = 1 ∧ (left ≠ [] ∨ into = true) then .err 55
    else if kindP T (at_ ++ [s]) = 0 ∧ left ≠ [] then .err 5
    else .ok (at_ ++ [s]) (kindP T (at_ ++ [s]))
termination_by (b, left.length)
theorem walkN {T : ND} {find : Bool} {b : Nat} {at_ : List (List Nat)} {into : Bool} : walkL T find b [] at_ into = .ok at_ 2 := by rw [walkL.eq_def]
theorem walkC {T : ND} {find : Bool} {b : Nat} {at_ left : List (List Nat)} {s : List Nat} {into : Bool} : walkL T find b (s :: left) at_ into =
    if s = [46, 46] then walkL T find b left at_.dropLast into
    else if kindP T (at_ ++ [s]) = 3 ∧ (left ≠ [] ∨ into = true ∨ find = true) then match b with
      | 0 => .err 61
      | b + 1 => walkL T find b (stepsL (textP T (at_ ++ [s])) ++ left) (if absP (textP T (at_ ++ [s])) = true then [] else at_) (if left = [] then into || dirP (textP T (at_ ++ [s])) else into)
    else if kindP T (at_ ++ [s]) = 2 then walkL T find b left (at_ ++ [s]) into
    else if kindP T (at_ ++ [s]) = 1 ∧ (left ≠ [] ∨ into = true) then .err 55
    else if kindP T (at_ ++ [s]) = 0 ∧ left ≠ [] then .err 5
    else .ok (at_ ++ [s]) (kindP T (at_ ++ [s])) := by
  conv => lhs; rw [walkL.eq_def]
section
variable {T : ND} {find : Bool} {at_ left : List (List Nat)} {s : List Nat} {into : Bool}
theorem walk_dd (b : Nat) : walkL T find b ([46, 46] :: left) at_ into = walkL T find b left at_.dropLast into := by rw [walkC, if_pos rfl]
theorem walk_l0 (hs : s ≠ [46, 46]) (hk : kindP T (at_ ++ [s]) = 3 ∧ (left ≠ [] ∨ into = true ∨ find = true)) : walkL T find 0 (s :: left) at_ into = .err 61 := by rw [walkC, if_neg hs, if_pos hk]
theorem walk_l1 (b : Nat) (hs : s ≠ [46, 46]) (hk : kindP T (at_ ++ [s]) = 3 ∧ (left ≠ [] ∨ into = true ∨ find = true)) : walkL T find (b + 1) (s :: left) at_ into =
    walkL T find b (stepsL (textP T (at_ ++ [s])) ++ left) (if absP (textP T (at_ ++ [s])) = true then [] else at_) (if left = [] then into || dirP (textP T (at_ ++ [s])) else into) := by rw [walkC, if_neg hs, if_pos hk]
theorem walk_d (b : Nat) (hs : s ≠ [46, 46]) (h2 : kindP T (at_ ++ [s]) = 2) : walkL T find b (s :: left) at_ into = walkL T find b left (at_ ++ [s]) into := by
  rw [walkC, if_neg hs, if_neg (fun h => by rw [h2] at h; omega), if_pos h2]
theorem walk_f (b : Nat) (hs : s ≠ [46, 46]) (h : kindP T (at_ ++ [s]) = 1 ∧ (left ≠ [] ∨ into = true)) : walkL T find b (s :: left) at_ into = .err 55 := by
  rw [walkC, if_neg hs, if_neg (fun h2 => by omega), if_neg (by omega), if_pos h]
theorem walk_n (b : Nat) (hs : s ≠ [46, 46]) (h : kindP T (at_ ++ [s]) = 0 ∧ left ≠ []) : walkL T find b (s :: left) at_ into = .err 5 := by
  rw [walkC, if_neg hs, if_neg (fun h2 => by omega), if_neg (by omega), if_neg (fun h2 => by omega), if_pos h]
theorem walk_e (b : Nat) (hs : s ≠ [46, 46]) (h3 : ¬ (kindP T (at_ ++ [s]) = 3 ∧ (left ≠ [] ∨ into = true ∨ find = true))) (h2 : kindP T (at_ ++ [s]) ≠ 2) (h1 : ¬ (kindP T (at_ ++ [s]) = 1 ∧ (left ≠ [] ∨ into = true))) (h0 : ¬ (kindP T (at_ ++ [s]) = 0 ∧ left ≠ [])) : walkL T find b (s :: left) at_ into = .ok (at_ ++ [s]) (kindP T (at_ ++ [s])) := by
  rw [walkC, if_neg hs, if_neg h3, if_neg h2, if_neg h1, if_neg h0]
end
section
variable {T : ND}
theorem findP_app : ∀ (n : ND) (a b : List (List Nat)), findP n (a ++ b) = (findP n a).bind fun k => findP k b
  | n, [], b => rfl
  | n, s :: a, b => by
    simp only [List.cons_append, findP]
    cases kidN n s with
    | none => rfl
    | some k => exact findP_app k a b
theorem kid_dir {n k : ND} {s : List Nat} (h : kidN n s = some k) : n.kind = 2 := by
  unfold kidN at h
  split at h
  · assumption
  · cases h
theorem dir_up {pl : List (List Nat)} {s : List Nat} (h : kindP T (pl ++ [s]) ≠ 0) : kindP T pl = 2 := by
  unfold kindP at *
  rw [findP_app] at h
  cases hf : findP T pl with
  | none => rw [hf] at h; exact absurd rfl h
  | some x =>
    rw [hf] at h
    simp only [Option.bind_some, findP] at h
    cases hk : kidN x s with
    | none => rw [hk] at h; exact absurd rfl h
    | some k => exact kid_dir hk
theorem dir_pre : ∀ (r pl : List (List Nat)), kindP T (pl ++ r) = 2 → kindP T pl = 2 := by
  intro r
  induction r with
  | nil => intro pl h; rw [List.append_nil] at h; exact h
  | cons s r ih =>
    intro pl h
    have h2 := ih (pl ++ [s]) (by rw [List.append_assoc]; exact h)
    exact dir_up (by rw [h2]; decide)
theorem dir_last (pl : List (List Nat)) (h : kindP T pl = 2) : kindP T pl.dropLast = 2 := by
  by_cases hp : pl = []
  · subst hp; exact h
  · exact dir_pre [pl.getLast hp] _ (by rw [List.dropLast_concat_getLast]; exact h)
structure Good (T : ND) (pl : List (List Nat)) (k : Nat) : Prop where
  kind : kindP T pl = k
  names : ∀ s ∈ pl, Stp s ∧ s ≠ [46, 46]
  up : ∀ a s, pl = a ++ [s] → kindP T a = 2
  root : pl = [] → k = 2
theorem good_dir {pl : List (List Nat)} (h : kindP T pl = 2) (hn : ∀ s ∈ pl, Stp s ∧ s ≠ [46, 46]) : Good T pl 2 where
  kind := h
  names := hn
  up := fun a s he => dir_up (s := s) (by rw [← he, h]; decide)
  root := fun _ => rfl
theorem walk_good (hT : T.kind = 2) (find : Bool) (b : Nat) (left at_ : List (List Nat)) (into : Bool) :
    ∀ {pl : List (List Nat)} {k : Nat}, kindP T at_ = 2 → (∀ s ∈ left, Stp s) → (∀ s ∈ at_, Stp s ∧ s ≠ [46, 46]) → walkL T find b left at_ into = .ok pl k → Good T pl k := by
  induction b, left, at_, into using walkL.induct T find with
  | case1 b at_ into =>
    intro pl k h1 _ h3 h
    rw [walkN] at h
    cases h
    exact good_dir h1 h3
  | case2 b at_ into left ih =>
    intro pl k h1 h2 h3 h
    rw [walk_dd] at h
    exact ih (dir_last _ h1) (fun s hs => h2 s (List.mem_cons_of_mem _ hs)) (fun s hs => h3 s (List.dropLast_subset _ hs)) h
  | case3 at_ into s left hs hk =>
    intro pl k h1 h2 h3 h
    rw [walk_l0 hs hk] at h
    cases h
  | case4 at_ into s left hs hk b ih =>
    intro pl k h1 h2 h3 h
    rw [walk_l1 b hs hk] at h
    refine ih ?_ (fun x hx => ?_) (fun x hx => ?_) h
    · split
      · exact hT
      · exact h1
    · rcases List.mem_append.1 hx with hx | hx
      · exact (stepsL_mem hx).1
      · exact h2 x (List.mem_cons_of_mem _ hx)
    · split at hx
      · cases hx
      · exact h3 x hx
  | case5 b at_ into s left hs hk k2 ih =>
    intro pl k h1 h2 h3 h
    rw [walk_d b hs k2] at h
    refine ih k2 (fun s hs => h2 s (List.mem_cons_of_mem _ hs)) (fun x hx => ?_) h
    rcases List.mem_append.1 hx with hx | hx
    · exact h3 x hx
    · cases List.mem_singleton.1 hx
      exact ⟨h2 s List.mem_cons_self, hs⟩
  | case6 b at_ into s left hs hk k2 k1 =>
    intro pl k h1 h2 h3 h
    rw [walk_f b hs k1] at h
    cases h
  | case7 b at_ into s left hs hk k2 k1 k0 =>
    intro pl k h1 h2 h3 h
    rw [walk_n b hs k0] at h
    cases h
  | case8 b at_ into s left hs hk k2 k1 k0 =>
    intro pl k h1 h2 h3 h
    rw [walk_e b hs hk k2 k1 k0] at h
    cases h
    exact {
      kind := rfl
      names := fun x hx => by
        rcases List.mem_append.1 hx with hx | hx
        · exact h3 x hx
        · cases List.mem_singleton.1 hx
          exact ⟨h2 s List.mem_cons_self, hs⟩
      up := fun a t he => by
        obtain ⟨rfl, _⟩ := List.append_inj' he rfl
        exact h1
      root := fun he => by simp at he }
theorem walk_notlink (b : Nat) (left at_ : List (List Nat)) (into : Bool) : ∀ {pl : List (List Nat)} {k : Nat}, walkL T true b left at_ into = .ok pl k → k ≠ 3 := by
  induction b, left, at_, into using walkL.induct T true with
  | case1 b at_ into => intro pl k h; rw [walkN] at h; cases h; decide
  | case2 b at_ into left ih => intro pl k h; rw [walk_dd] at h; exact ih h
  | case3 at_ into s left hs hk => intro pl k h; rw [walk_l0 hs hk] at h; cases h
  | case4 at_ into s left hs hk b ih => intro pl k h; rw [walk_l1 b hs hk] at h; exact ih h
  | case5 b at_ into s left hs hk k2 ih => intro pl k h; rw [walk_d b hs k2] at h; exact ih h
  | case6 b at_ into s left hs hk k2 k1 => intro pl k h; rw [walk_f b hs k1] at h; cases h
  | case7 b at_ into s left hs hk k2 k1 k0 => intro pl k h; rw [walk_n b hs k0] at h; cases h
  | case8 b at_ into s left hs hk k2 k1 k0 =>
    intro pl k h; rw [walk_e b hs hk k2 k1 k0] at h; cases h
    intro h3; exact hk ⟨h3, by simp⟩
def After (T : ND) (nm : List Nat) (b : Nat) (R1 R2 : WR) : Prop := match R1 with
  | .err _ => ∃ e, R2 = .err e
  | .ok pl k => (k = 1 → R2 = .err 55) ∧ (k = 0 → R2 = .err 5) ∧ (k = 2 → ∃ c, c ≤ b ∧ R2 = walkL T true c [nm] pl false)
theorem After.mono {nm : List Nat} {b c : Nat} {R1 R2 : WR} (h : After T nm b R1 R2) (hb : b ≤ c) : After T nm c R1 R2 := by
  cases R1 with
  | err e => exact h
  | ok pl k => exact ⟨h.1, h.2.1, fun hk => by obtain ⟨d, h1, h2⟩ := h.2.2 hk; exact ⟨d, by omega, h2⟩⟩
end
end Go.Proofs.YtkkfjoiffcmpeaaDoor

/-
  Steps and Clean, where what they tell is told at the border.
-/
set_option maxRecDepth 100000
set_option linter.unusedSimpArgs false
set_option linter.constructorNameAsVariable false
namespace Go.Proofs.YtkkfjoiffcmpeaaDoor
open Go.Proofs.YtkkfjoiffcmpeaaDoor.Am
theorem appendSeq_ok {L : List (List Nat)} (hl : L.length < 2 ^ 37) {g : Nat} {caps : List AV} {s : St} (hw : Wf s) (hit : ∀ q, (∀ i, i < s.nb → q.box? i = s.box? i) → s.nb ≤ q.nb → IterOk prog (fun _ => False) q.nb g caps (L.map .s) q) :
    ∃ r s', (lim prog).call f_slices_AppendSeq_string_string [.nsl, .fn g caps] s = some (r, s') ∧ s' = s ∧ ((r = .nsl ∧ L = []) ∨ r = .sl 1 (L.map .s) .shut) := by
  refine fn_G (Post := fun r s' => s' = s ∧ ((r = .nsl ∧ L = []) ∨ r = .sl 1 (L.map .s) .shut)) p_slices_AppendSeq_string_string rfl rfl ?_
  obtain ⟨q2, hq2⟩ : ∃ q2, s.enter.new (.cells 22 [.nsl]) = q2 := ⟨_, rfl⟩
  have w2 : Wf q2 := by rw [← hq2]; exact hw.enter.new _
  have n2 : q2.nb = s.nb + 1 ∧ q2.nt = s.nt ∧ q2.lo = s.nb := by rw [← hq2]; exact ⟨rfl, rfl, rfl⟩
  have ov2 : Over s q2 := by rw [← hq2]; exact (Over.enter s).new _
  have bo2 : q2.box? s.nb = some (.cells 22 [.nsl]) := by rw [← hq2]; exact new_box_self s.enter _
  have bx2 : ∀ i, i < s.nb → q2.box? i = s.box? i := fun i hi => by rw [← hq2]; exact new_box_lt (s := s.enter) hi
  have hnb : s.enter.nb = s.nb := rfl
  have c1 : AV.nsl.cells = [.nsl] := rfl
  have hl1 : ∀ a : AV, [a].length = 1 := fun _ => rfl
  simp only [c_slices_AppendSeq_string_string, go_sem, W_cond, WO_guard2, WE_guard2, WQ_guard2, W_regD, KB_n, KB_x, Nat.reduceBEq, Nat.reduceAdd, Nat.reduceLT, Nat.reduceLeDiff, Nat.reduceEqDiff, reduceIte, Int.reduceEq, reduceCtorEq, hnb, c1, hl1, hq2]
  refine W_cut (fun e => e.get 2 = .p s.nb 0 ∧ e.get 6 = .fn g caps) ⟨?_, ?_⟩ ?_
  · simp only [go_sem, W_cond, WO_guard2, WE_guard2, WQ_guard2, W_regD, KB_n, KB_x, Nat.reduceBEq, Nat.reduceAdd, Nat.reduceLT, Nat.reduceLeDiff, Nat.reduceEqDiff, reduceIte, Int.reduceEq, reduceCtorEq]
  · simp only [go_sem, W_cond, WO_guard2, WE_guard2, WQ_guard2, W_regD, KB_n, KB_x, Nat.reduceBEq, Nat.reduceAdd, Nat.reduceLT, Nat.reduceLeDiff, Nat.reduceEqDiff, reduceIte, Int.reduceEq, reduceCtorEq]
  rintro e ⟨g2, g6⟩
  obtain ⟨q3, hq3⟩ : ∃ q3, q2.new (.loop 0 none e [7] apA apC) = q3 := ⟨_, rfl⟩
  have w3 : Wf q3 := by rw [← hq3]; exact w2.new _
  have n3 : q3.nb = s.nb + 2 ∧ q3.nt = s.nt := by rw [← hq3]; exact ⟨by show q2.nb + 1 = _; omega, n2.2.1⟩
  have ov3 : Over s q3 := by rw [← hq3]; exact ov2.new _
  have bx3 : ∀ i, i < q2.nb → q3.box? i = q2.box? i := fun i hi => by rw [← hq3]; exact new_box_lt hi
  have bk3 : q3.box? q2.nb = some (.loop 0 none e [7] apA apC) := by rw [← hq3]; exact new_box_self _ _
  obtain ⟨q4, hc4, ov4, w4, n4, t4, hI4⟩ := hit q3 (fun i hi => by rw [bx3 i (by omega), bx2 i hi]) (by omega) s (q2.nb + 1) s.nt q2.nb _ _
    (apBody (k := q2.nb) (ido := s.nb) (e := e) (by omega) (Nat.le_refl _) hl g2)
    ⟨bk3, ⟨.nsl, by rw [bx3 _ (by omega)]; exact bo2, .inl ⟨rfl, rfl⟩, fun k hk => by simp [rowTok] at hk⟩, fun _ => by rw [bx3 _ (by omega)]; exact bo2⟩ ov3 w3 (by omega) (by omega) (by omega) (by omega)
  rw [← hq3] at hc4
  refine W_rf g6 hc4 ?_
  rcases hI4 with ⟨k1, ⟨a, k2, k3, k4⟩, _⟩ | h
  · refine ⟨_, _, _, _, _, _, k1, by decide, ?_⟩
    have b5 : (q4.setBox q2.nb .used).box? s.nb = some (.cells 22 [a]) := by rw [setBox_box? w4.b (by omega), if_neg (by omega)]; exact k2
    have lda := ld_box (s := q4.setBox q2.nb .used) (v := a) (off := 0) b5 rfl
    have ov5 : Over s (q4.setBox q2.nb .used) := Over.setBox ov4 (by omega) (by omega) _
    have w5 : Wf (q4.setBox q2.nb .used) := w4.setBox _ _
    rw [List.length_map, List.take_length] at k3
    rcases k3 with ⟨rfl, h⟩ | ⟨k, vv, t, rfl, m1, m2, m3, m4, m5, m6, m7⟩
    · have h : L = [] := by simpa using h
      simp only [go_sem, W_cond, WO_guard2, WE_guard2, WQ_guard2, W_regD, KB_n, KB_x, Nat.reduceBEq, Nat.reduceAdd, Nat.reduceLT, Nat.reduceLeDiff, Nat.reduceEqDiff, reduceIte, Int.reduceEq, reduceCtorEq, g2, lda, Nat.zero_add, pubA, frz]
      exact ⟨_, _, rfl, ov5.leave rfl, .inl ⟨rfl, h⟩⟩
    · have m3' : (q4.setBox q2.nb .used).tok? k = some t := m3
      simp only [go_sem, W_cond, WO_guard2, WE_guard2, WQ_guard2, W_regD, KB_n, KB_x, Nat.reduceBEq, Nat.reduceAdd, Nat.reduceLT, Nat.reduceLeDiff, Nat.reduceEqDiff, reduceIte, Int.reduceEq, reduceCtorEq, g2, lda, Nat.zero_add, pubA, frz, pub, m3', m4]
      exact ⟨_, _, rfl, (Over.setTok ov5 m1 m2 _).leave (by simp only [tupOf, AV.refs]; exact refs_s' _), .inr rfl⟩
  · exact h.elim
theorem collect_ok {L : List (List Nat)} (hl : L.length < 2 ^ 37) {g : Nat} {caps : List AV} {s : St} (hw : Wf s) (hit : ∀ q, (∀ i, i < s.nb → q.box? i = s.box? i) → s.nb ≤ q.nb → IterOk prog (fun _ => False) q.nb g caps (L.map .s) q) :
    (lim prog).call f_slices_Collect_string [.fn g caps] s = some (tx L, s) := by
  refine fn_W p_slices_Collect_string rfl rfl ?_
  obtain ⟨r, s', h, rfl, hr⟩ := appendSeq_ok (s := s.enter) hl hw.enter hit
  rcases hr with ⟨rfl, rfl⟩ | rfl
  · simp only [c_slices_Collect_string, go_sem, W_cond, WO_guard2, WE_guard2, WQ_guard2, W_regD, KB_n, KB_x, Nat.reduceBEq, Nat.reduceAdd, Nat.reduceLT, Nat.reduceLeDiff, Nat.reduceEqDiff, reduceIte, Int.reduceEq, reduceCtorEq, h, frz]
    exact KR_some (Over.enter s) rfl rfl
  · simp only [c_slices_Collect_string, go_sem, W_cond, WO_guard2, WE_guard2, WQ_guard2, W_regD, KB_n, KB_x, Nat.reduceBEq, Nat.reduceAdd, Nat.reduceLT, Nat.reduceLeDiff, Nat.reduceEqDiff, reduceIte, Int.reduceEq, reduceCtorEq, h, frz]
    refine KR_some (Over.enter s) (by simp only [tupOf, AV.refs]; exact refs_s' _) ?_
    simp only [tupOf, wkZ]
    rw [wk]
    simp only [Nat.beq_eq, if_true, wkM_s', Nat.beq_refl]
theorem pathSteps_ok (l : List Nat) (hl : Txt l) (hlen : l.length < 2 ^ 36) (s : St) (hw : Wf s) : (lim prog).call f_path_Steps [.s l] s = some (tx (stepsL l), s) := by
  refine fn_W p_path_Steps rfl rfl ?_
  have hst := steps_ok l s.enter
  obtain ⟨q, hq⟩ : ∃ q, ({ s.enter.new (.cells 9 [.s l]) with lo := min s.enter.lo s.enter.nb } : St) = q := ⟨_, rfl⟩
  rw [hq] at hst
  have w1 : Wf q := by rw [← hq]; exact (hw.enter.new _).lo _
  have ov : Over s q := by rw [← hq]; exact Over.setLo ((Over.enter s).new _) (by show s.nb ≤ min s.nb s.nb; omega)
  have nq : q.nb = s.nb + 1 := by rw [← hq]; rfl
  have bq : q.box? s.nb = some (.cells 9 [.s l]) := by rw [← hq]; exact new_box_self s.enter _
  have hnb : s.enter.nb = s.nb := rfl
  have hc := collect_ok (L := stepsL l) (by have := stepsL_len l; omega) w1 (g := f_path_steps_1) (caps := [.p s.nb 0]) fun q' h1 h2 => stepsIter (O := fun _ => False) (m := q'.nb) hl (s := q') (a := s.nb) (by rw [h1 _ (by omega)]; exact bq) (by omega)
  simp only [c_path_Steps, go_sem, W_cond, WO_guard2, WE_guard2, WQ_guard2, W_regD, KB_n, KB_x, Nat.reduceBEq, Nat.reduceAdd, Nat.reduceLT, Nat.reduceLeDiff, Nat.reduceEqDiff, reduceIte, Int.reduceEq, reduceCtorEq, hst, hnb, hc]
  exact KR_some ov (by simp only [tupOf, AV.refs]; exact refs_s' _) (by simp only [tupOf, wkZ]; rw [wk])
end Go.Proofs.YtkkfjoiffcmpeaaDoor

/-
  The walker follows a link.
-/
set_option maxRecDepth 100000
set_option maxHeartbeats 2000000
set_option linter.unusedSimpArgs false
set_option linter.constructorNameAsVariable false
namespace Go.Proofs.YtkkfjoiffcmpeaaDoor
open Go.Proofs.YtkkfjoiffcmpeaaDoor.Am
attribute [local irreducible] W WO WE WQ WD Tr.get Tr.set
theorem prefI_ok (l : List Nat) (hl : l.length < 2 ^ 62) (s : St) : (lim prog).call f_internal_stringslite_HasPrefix [.s l, .s [47]] s = some (.b (absP l), s) := by
  refine fn_W p_internal_stringslite_HasPrefix rfl rfl ?_
  cases l with
  | nil =>
    have h1 : ((([47] : List Nat).length : Int) ≤ (([] : List Nat).length : Int)) = False := by simp
    simp only [c_internal_stringslite_HasPrefix, go_sem, W_cond2, WO_guard3, WE_guard3, WQ_guard3, KB_n, KB_x, Nat.reduceBEq, Nat.reduceAdd, Nat.reduceLT, Nat.reduceLeDiff, Nat.reduceEqDiff, reduceIte, Int.reduceEq, reduceCtorEq, h1]
    exact KR_some (Over.enter s) rfl rfl
  | cons c l =>
    have h1 : ((([47] : List Nat).length : Int) ≤ ((c :: l).length : Int)) = True := by simp only [List.length_cons, List.length_nil, eq_iff_iff, iff_true]; omega
    have hb := bounds_oi (len := (c :: l).length) (b := 1) (by simp)
    have hb : bounds (c :: l).length none (some (.i .i64 (([47] : List Nat).length : Int))) = some (0, 1) := hb
    have ht : ((c :: l).drop 0).take (1 - 0) = [c] := by simp
    have h2 : ([c] = [47]) = (c = 47) := by simp
    simp only [c_internal_stringslite_HasPrefix, go_sem, W_cond2, WO_guard3, WE_guard3, WQ_guard3, KB_n, KB_x, Nat.reduceBEq, Nat.reduceAdd, Nat.reduceLT, Nat.reduceLeDiff, Nat.reduceEqDiff, reduceIte, Int.reduceEq, reduceCtorEq, h1, hb, ht, h2]
    refine KR_some (Over.enter s) rfl ?_
    simp [absP, tupOf, wkZ, wk]
theorem pref_ok (l : List Nat) (hl : l.length < 2 ^ 62) (s : St) : (lim prog).call f_strings_HasPrefix [.s l, .s [47]] s = some (.b (absP l), s) := by
  refine fn_W p_strings_HasPrefix rfl rfl ?_
  simp only [c_strings_HasPrefix, go_sem, W_cond2, WO_guard3, WE_guard3, WQ_guard3, KB_n, KB_x, Nat.reduceBEq, Nat.reduceAdd, Nat.reduceLT, Nat.reduceLeDiff, Nat.reduceEqDiff, reduceIte, Int.reduceEq, reduceCtorEq, prefI_ok l hl]
  exact KR_some (Over.enter s) rfl rfl
def LfIs (R : List RA) (lf : AV) (left : List (List Nat)) : Prop := (R = [] ∧ Told1 1 lf (left.map .s)) ∨ ∃ fr, R = [⟨1, 9, lf, left.map .s, fr⟩]
theorem rowH_elems {t0 : Nat} {s : St} {r : RA} (h : RowH t0 s r) : Am.elems s r.es r.a = some r.xs := by
  rcases h with (⟨h, h2⟩ | ⟨h, h2⟩ | h | h) | ⟨k, v, t, h, k1, k2, k3, k4, k5, _⟩
  · rw [h, h2]; rfl
  · rw [h, h2]; rfl
  · rw [h]; simp [Am.elems, St.ok]
  · rw [h]; simp [Am.elems]
  · rw [h]; simp [Am.elems, St.ok, k3, k4]
theorem rowH_len {t0 : Nat} {s : St} {r : RA} (h : RowH t0 s r) (q : St) : lenA q 1 r.a = some (.i .i64 (r.xs.length : Nat)) := by
  rcases h with (⟨h, h2⟩ | ⟨h, h2⟩ | h | h) | ⟨k, v, t, h, _⟩
  · rw [h, h2]; rfl
  · rw [h, h2]; rfl
  · rw [h]; rfl
  · rw [h]; rfl
  · rw [h]; rfl
theorem LfIs.ok {R : List RA} {lf : AV} {left : List (List Nat)} (h : LfIs R lf left) {s0 s : St} {en : En} {B : List (Nat × Box)} (H : Hp s0 s en R B) :
    elems s 1 lf = some (left.map .s) ∧ (∀ q, lenA q 1 lf = some (.i .i64 (left.length : Nat))) ∧ (∀ q, ldR q (some lf) = some (lf, q)) ∧ ldQ (some lf) = true := by
  rcases h with ⟨rfl, h⟩ | ⟨fr, rfl⟩
  · exact ⟨h.elems s, fun q => by have := h.len q; rw [List.length_map] at this; exact this, h.ld.1, h.ld.2⟩
  · have hr := H.rows (i := 0) rfl
    exact ⟨rowH_elems hr, fun q => by have := rowH_len hr q; rw [List.length_map] at this; exact this, hr.ld.1, hr.ld.2⟩
abbrev wkB (id : Nat) (a lf : AV) (into find : Bool) (links : Nat) : Box := .cells 72 [.ifc 28 (.p id 0), a, lf, .b into, .b find, .i .i64 (links : Nat)]
def Wk (id : Nat) (s0 s : St) (en : En) (iw : Nat) (find : Bool) (b : Nat) (left at_ : List (List Nat)) (into : Bool) : Prop :=
  ∃ R a lf, Hp s0 s en R [(iw, wkB id a lf into find (8 - b))] ∧ Told1 1 a (at_.map .s) ∧ LfIs R lf left ∧ (rowTok lf = none ∨ s.lo ≤ iw)
structure Tre (n : ND) (id : Nat) (s0 : St) : Prop where
  ok : n.Ok
  well : wellN n = true
  lt : id < s0.nb
  box : s0.box? id = some (.cells 55 n.cells)
theorem Tre.at {n : ND} {id : Nat} {s0 s : St} (h : Tre n id s0) (ho : Over s0 s) : id < s.nb ∧ s.box? id = some (.cells 55 n.cells) :=
  ⟨by have := ho.nb; have := h.lt; omega, by rw [over_box ho h.lt]; exact h.box⟩
theorem Tre.kind {n : ND} {id : Nat} {s0 s : St} (h : Tre n id s0) (ho : Over s0 s) (hw : Wf s) {pl : List (List Nat)} (hl : pl.length < 2 ^ 62) : (lim prog).call f_ftree_Tree_Kind [.p id 0, tx pl] s = some (.i .u8 (kindP n pl : Nat), s) :=
  kind_ok h.ok h.well hl hw (h.at ho).1 (h.at ho).2
theorem Tre.text {n : ND} {id : Nat} {s0 s : St} (h : Tre n id s0) (ho : Over s0 s) (hw : Wf s) {pl : List (List Nat)} (hl : pl.length < 2 ^ 62) : (lim prog).call f_ftree_Tree_Text [.p id 0, tx pl] s = some (.s (textP n pl), s) :=
  textT_ok h.ok h.well hl hw (h.at ho).1 (h.at ho).2
theorem lk28 (f : Nat) (l : List (Nat × Nat)) : List.lookup 28 ((28, f) :: l) = some f := by simp [List.lookup]
theorem tokA_refs {t0 : Nat} {s : St} {r : RA} (h : RowH t0 s r) (hn : rowTok r.a ≠ none) : r.a.refs = true := by
  rcases h with h | ⟨k, v, t, h, _⟩
  · exact absurd (full_tok h) hn
  · rw [h]; rfl
theorem low_row {s0 s : St} {n : En} {R : List RA} {B : List (Nat × Box)} {r : RA} {iw : Nat} (H : Hp s0 s n (r :: R) B) (hl : r.a.refs = true → s.lo ≤ iw) : ∃ m, Hp s0 s { n with lo := m } (r :: R) B ∧ (m = iw ∨ (m = n.lo ∧ rowTok r.a = none)) := by
  by_cases h : rowTok r.a = none
  · exact ⟨n.lo, H, .inr ⟨rfl, h⟩⟩
  · exact ⟨iw, H.lower (hl (tokA_refs (H.rows (i := 0) rfl) h)), .inl rfl⟩
theorem leave_lo {s s1 : St} {iw : Nat} (h : s1.lo ≤ iw) (hiw : iw < s.nb) (v : AV) : (Am.leave s s1 v).lo ≤ iw := by
  unfold Am.leave
  split
  · rename_i hc
    simp only [Bool.and_eq_true, Nat.ble_eq] at hc
    omega
  · simp only; omega
theorem Wk.leave {id : Nat} {s0 s s1 : St} {en : En} {R : List RA} {B : List (Nat × Box)} {iw b : Nat} {find into : Bool} {left at_ : List (List Nat)} (H : Hp s0 s en R B) (hiw : iw < s.nb) (h : Wk id s0 s1 s.en iw find b left at_ into) (v : AV) : Wk id s0 (Am.leave s s1 v) en iw find b left at_ into := by
  obtain ⟨R1, a, lf, K, ha, hl, hlo⟩ := h
  have hB : ∀ {i : Nat} {p : Nat × Box}, [(iw, wkB id a lf into find (8 - b))][i]? = some p → p.1 < s.nb := @fun i p hp => by
    cases i with
    | zero => simp only [List.getElem?_cons_zero, Option.some.injEq] at hp; subst hp; exact hiw
    | succ i => simp at hp
  rcases hlo with hn | hlo
  · refine ⟨R1, a, lf, H.leave (n1 := s.en) K v hB (.inr @fun i x k hr hk => ?_), ha, hl, .inl hn⟩
    rcases hl with ⟨rfl, _⟩ | ⟨fr, rfl⟩
    · simp at hr
    · cases i with
      | zero => simp only [List.getElem?_cons_zero, Option.some.injEq] at hr; subst hr; rw [hn] at hk; cases hk
      | succ i => simp at hr
  · exact ⟨R1, a, lf, H.leave (n1 := ⟨iw, s.nb, s.nt⟩) (K.lower hlo) v hB (.inl hiw), ha, hl, .inr (leave_lo hlo hiw v)⟩
def FolP (n : ND) (id : Nat) (s0 : St) (en : En) (iw : Nat) (find : Bool) (b : Nat) (left at_ pl : List (List Nat)) (into : Bool) (r : AV) (s' : St) : Prop :=
  (b = 0 ∧ r = .i .i64 61 ∧ ∃ R B, Hp s0 s' en R B) ∨ ∃ c, b = c + 1 ∧ r = .i .i64 0 ∧ Wk id s0 s' en iw find c (stepsL (textP n pl) ++ left) (if absP (textP n pl) = true then [] else at_) (if left = [] then into || dirP (textP n pl) else into)
theorem follow_hp {n : ND} {id : Nat} {s0 s : St} {en : En} {iw b : Nat} {find into : Bool} {left at_ pl : List (List Nat)} {R : List RA} {a lf : AV} (ht : Tre n id s0) (H : Hp s0 s en R [(iw, wkB id a lf into find (8 - b))]) (ha : Told1 1 a (at_.map .s)) (hl : LfIs R lf left) (hb : b ≤ 8) (hpl : pl.length < 2 ^ 62)
    (htx : Txt (textP n pl) ∧ (textP n pl).length < 2 ^ 30) (hlf : left.length < 2 ^ 36) :
    ∃ r s', (lim prog).call f_walk_walker_follow [.p iw 0, tx pl] s = some (r, s') ∧ FolP n id s0 en iw find b left at_ pl into r s' := by
  refine fn_G (Post := FolP n id s0 en iw find b left at_ pl into) p_walk_walker_follow rfl rfl ?_
  have H0 := H.enter
  have hiw : iw < s.nb := H.boxLt (i := 0) rfl
  have l1 := H0.ld 0 (off := 5) rfl rfl
  have hz0 : wkZ c_walk_walker_follow.cin [.p iw 0, tx pl] = [.p iw 0, tx pl] := by simp [c_walk_walker_follow, wkZ, wk, wkM_s]
  rw [hz0]
  have hw1 : IntKind.i64.wrap (((8 - b : Nat) : Int) + 1) = ((8 - b + 1 : Nat) : Int) := wrap_succ (by omega)
  obtain ⟨q1, d1, H1, n1, _⟩ := H0.st 0 (off := 5) (v := .i .i64 ((8 - b + 1 : Nat) : Int)) rfl (by simp) ⟨rfl, rfl⟩
  have l2 := H1.ld 0 (off := 5) (v := .i .i64 ((8 - b + 1 : Nat) : Int)) rfl rfl
  cases b with
  | zero =>
    have c1 : ((8 : Int) < ((8 - 0 + 1 : Nat) : Int)) = True := by simp
    simp only [c_walk_walker_follow, go_sem, W_cond2, WO_guard3, WE_guard3, WQ_guard3, KB_n, KB_x, Nat.reduceBEq, Nat.reduceAdd, Nat.reduceLT, Nat.reduceLeDiff, Nat.reduceEqDiff, reduceIte, Int.reduceEq, reduceCtorEq, l1, hw1, d1, l2, Nat.zero_add, c1]
    exact ⟨_, _, rfl, .inl ⟨rfl, rfl, _, _, H.leave (n1 := s.en) (H1.sel (List.range R.length) [] List.nodup_range (by simp)) _ (fun hp => by simp [pick] at hp) (.inr fun hr hk => by rw [pick_range] at hr; exact (H.rows hr).tok_lt hk)⟩⟩
  | succ c =>
    have e9 : 8 - (c + 1) + 1 = 8 - c := by omega
    rw [e9] at hw1 d1 l2 H1
    have c1 : ((8 : Int) < ((8 - c : Nat) : Int)) = False := by simp only [eq_iff_iff, iff_false]; omega
    have l3 := H1.ld 0 (off := 0) (v := .ifc 28 (.p id 0)) rfl rfl
    have l4 := H1.ld 0 (off := 2) (v := lf) rfl rfl
    have l6 := H1.ld 0 (off := 3) (v := .b into) rfl rfl
    obtain ⟨b1, b2, b3, b4⟩ := hl.ok H1
    have t1 := ht.text H1.over H1.wf hpl
    have t4 := dir_ok (textP n pl) (by omega) q1
    have hsl := stepsL_len (textP n pl)
    -- behind the question whether a directory is asked for
    have key : ∀ q2 into2, Hp s0 q2 s.en R [(iw, wkB id a lf into2 find (8 - c))] → into2 = (if left = [] then into || dirP (textP n pl) else into) →
        (lim prog).call f_path_Steps [.s (textP n pl)] q2 = some (tx (stepsL (textP n pl)), q2) ∧ ldA q2 false 1 (.p iw 2) = some lf ∧
        ∃ a' r q3 q4, sliceA q2 false 1 (tx (stepsL (textP n pl))) none (some (.i .i64 ((stepsL (textP n pl)).length : Nat))) (some (.i .i64 ((stepsL (textP n pl)).length : Nat))) = some (a', q2) ∧
          appA q2 1 9 a' lf = some (r, q3) ∧ stA q3 1 (.p iw 2) r = some q4 ∧ (lim prog).call f_strings_HasPrefix [.s (textP n pl), .s [47]] q4 = some (.b (absP (textP n pl)), q4) ∧
          if absP (textP n pl) = true then ∃ q6, stA q4 1 (.p iw 1) .nsl = some q6 ∧ FolP n id s0 en iw find (c + 1) left at_ pl into (.i .i64 0) (Am.leave s q6 (.i .i64 0))
          else FolP n id s0 en iw find (c + 1) left at_ pl into (.i .i64 0) (Am.leave s q4 (.i .i64 0)) := by
      intro q2 into2 H2 hi2
      obtain ⟨a', d3, hf⟩ := told_cap (es := 1) (a := tx (stepsL (textP n pl))) (.ws) q2
      rw [List.length_map] at d3
      obtain ⟨b1, b2, b3, b4⟩ := hl.ok H2
      obtain ⟨r, q3, d4, H3, n3, p3⟩ := H2.appN 9 hf b1 (by simp only [List.length_map]; omega)
      have hm : (stepsL (textP n pl)).map AV.s ++ left.map .s = (stepsL (textP n pl) ++ left).map .s := by simp
      rw [hm] at H3
      obtain ⟨q4, d5, H4, n4, p4⟩ := H3.st 0 (off := 2) (v := r) rfl (by simp) ⟨(H3.rcells 0 rfl).1, (H3.rcells 0 rfl).2.1⟩
      obtain ⟨m, H5, hm5⟩ := low_row H4 p4
      have hend : ∀ q6 a6 at6, Hp s0 q6 ⟨m, s.nb, s.nt⟩ (⟨1, 9, r, (stepsL (textP n pl) ++ left).map .s, true⟩ :: R) [(iw, wkB id a6 r into2 find (8 - c))] → Told1 1 a6 (at6.map .s) → at6 = (if absP (textP n pl) = true then [] else at_) →
          FolP n id s0 en iw find (c + 1) left at_ pl into (.i .i64 0) (Am.leave s q6 (.i .i64 0)) := fun q6 a6 at6 H6 t6 h6 => by
        have H7 := H6.sel [0] [0] (by simp) (by simp)
        refine .inr ⟨c, rfl, rfl, ?_⟩
        rw [← h6, ← hi2]
        have hm6 := H7.lo
        refine Wk.leave H hiw ⟨_, a6, r, H7.lower (m := s.nb) ?_, t6, .inr ⟨true, rfl⟩, ?_⟩ _
        · rcases hm5 with rfl | ⟨rfl, _⟩
          · simp only at hm6; omega
          · exact hm6
        · rcases hm5 with rfl | ⟨rfl, hn⟩
          · exact .inr hm6
          · exact .inl hn
      refine ⟨pathSteps_ok (textP n pl) htx.1 (by omega) q2 H2.wf, H2.ld 0 (off := 2) (v := lf) rfl rfl, a', r, q3, q4, d3, d4, d5, pref_ok (textP n pl) (by omega) q4, ?_⟩
      split
      · rename_i hab
        rw [hab] at hend
        obtain ⟨q6, d6, H6, _⟩ := H5.st 0 (off := 1) (v := .nsl) rfl (by simp) ⟨rfl, rfl⟩
        exact ⟨q6, d6, hend _ _ [] H6 (.inl ⟨rfl, rfl⟩) rfl⟩
      · rename_i hab
        exact hend _ _ at_ H5 ha (by rw [if_neg hab])
    by_cases hle : left = []
    · have c2 : ((left.length : Int) = 0) = True := by simp [hle]
      cases hin : into with
      | true =>
        rw [hin] at l6
        obtain ⟨q6, d6, H6, _⟩ := H1.st 0 (off := 3) (v := .b true) rfl (by simp) ⟨rfl, rfl⟩
        obtain ⟨k1, k2, a', r, q3, q4, k3, k4, k5, k6, k7⟩ := key q6 true H6 (by simp [hin])
        rw [hin] at k7
        simp only [c_walk_walker_follow, go_sem, W_cond2, WO_guard3, WE_guard3, WQ_guard3, KB_n, KB_x, Nat.reduceBEq, Nat.reduceAdd, Nat.reduceLT, Nat.reduceLeDiff, Nat.reduceEqDiff, reduceIte, Int.reduceEq, reduceCtorEq, l1, hw1, d1, l2, Nat.zero_add, c1, l3, lk28, t1, l4, b3, b4, b2, c2, l6, d6, k1, k2, List.length_map, k3, k4, k5, k6]
        cases hab : absP (textP n pl) with
        | true =>
          rw [if_pos hab] at k7
          obtain ⟨q6, d6, k7⟩ := k7
          simp only [go_sem, W_cond2, WO_guard3, WE_guard3, WQ_guard3, KB_n, KB_x, Nat.reduceBEq, Nat.reduceAdd, Nat.reduceLT, Nat.reduceLeDiff, Nat.reduceEqDiff, reduceIte, Int.reduceEq, reduceCtorEq, d6, Nat.zero_add]
          exact ⟨_, _, rfl, k7⟩
        | false =>
          rw [if_neg (by rw [hab]; simp)] at k7
          simp only [go_sem, W_cond2, WO_guard3, WE_guard3, WQ_guard3, KB_n, KB_x, Nat.reduceBEq, Nat.reduceAdd, Nat.reduceLT, Nat.reduceLeDiff, Nat.reduceEqDiff, reduceIte, Int.reduceEq, reduceCtorEq]
          exact ⟨_, _, rfl, k7⟩
      | false =>
        rw [hin] at l6
        obtain ⟨q6, d6, H6, _⟩ := H1.st 0 (off := 3) (v := .b (dirP (textP n pl))) rfl (by simp) ⟨rfl, rfl⟩
        obtain ⟨k1, k2, a', r, q3, q4, k3, k4, k5, k6, k7⟩ := key q6 _ H6 (by simp [hin, hle])
        rw [hin] at k7
        simp only [c_walk_walker_follow, go_sem, W_cond2, WO_guard3, WE_guard3, WQ_guard3, KB_n, KB_x, Nat.reduceBEq, Nat.reduceAdd, Nat.reduceLT, Nat.reduceLeDiff, Nat.reduceEqDiff, reduceIte, Int.reduceEq, reduceCtorEq, l1, hw1, d1, l2, Nat.zero_add, c1, l3, lk28, t1, l4, b3, b4, b2, c2, l6, t4, d6, k1, k2, List.length_map, k3, k4, k5, k6]
        cases hab : absP (textP n pl) with
        | true =>
          rw [if_pos hab] at k7
          obtain ⟨q6, d6, k7⟩ := k7
          simp only [go_sem, W_cond2, WO_guard3, WE_guard3, WQ_guard3, KB_n, KB_x, Nat.reduceBEq, Nat.reduceAdd, Nat.reduceLT, Nat.reduceLeDiff, Nat.reduceEqDiff, reduceIte, Int.reduceEq, reduceCtorEq, d6, Nat.zero_add]
          exact ⟨_, _, rfl, k7⟩
        | false =>
          rw [if_neg (by rw [hab]; simp)] at k7
          simp only [go_sem, W_cond2, WO_guard3, WE_guard3, WQ_guard3, KB_n, KB_x, Nat.reduceBEq, Nat.reduceAdd, Nat.reduceLT, Nat.reduceLeDiff, Nat.reduceEqDiff, reduceIte, Int.reduceEq, reduceCtorEq]
          exact ⟨_, _, rfl, k7⟩
    · have c2 : ((left.length : Int) = 0) = False := by have := List.length_pos_iff.2 hle; simp only [eq_iff_iff, iff_false]; omega
      obtain ⟨k1, k2, a', r, q3, q4, k3, k4, k5, k6, k7⟩ := key q1 into H1 (by simp [hle])
      simp only [c_walk_walker_follow, go_sem, W_cond2, WO_guard3, WE_guard3, WQ_guard3, KB_n, KB_x, Nat.reduceBEq, Nat.reduceAdd, Nat.reduceLT, Nat.reduceLeDiff, Nat.reduceEqDiff, reduceIte, Int.reduceEq, reduceCtorEq, l1, hw1, d1, l2, Nat.zero_add, c1, l3, lk28, t1, l4, b3, b4, b2, c2, k1, k2, List.length_map, k3, k4, k5, k6]
      cases hab : absP (textP n pl) with
      | true =>
        rw [if_pos hab] at k7
        obtain ⟨q6, d6, k7⟩ := k7
        simp only [go_sem, W_cond2, WO_guard3, WE_guard3, WQ_guard3, KB_n, KB_x, Nat.reduceBEq, Nat.reduceAdd, Nat.reduceLT, Nat.reduceLeDiff, Nat.reduceEqDiff, reduceIte, Int.reduceEq, reduceCtorEq, d6, Nat.zero_add]
        exact ⟨_, _, rfl, k7⟩
      | false =>
        rw [if_neg (by rw [hab]; simp)] at k7
        simp only [go_sem, W_cond2, WO_guard3, WE_guard3, WQ_guard3, KB_n, KB_x, Nat.reduceBEq, Nat.reduceAdd, Nat.reduceLT, Nat.reduceLeDiff, Nat.reduceEqDiff, reduceIte, Int.reduceEq, reduceCtorEq]
        exact ⟨_, _, rfl, k7⟩
end Go.Proofs.YtkkfjoiffcmpeaaDoor
