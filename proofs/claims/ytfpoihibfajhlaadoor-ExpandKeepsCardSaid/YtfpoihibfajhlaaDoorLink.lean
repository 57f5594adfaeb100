/-
  The abstract machine's functions are the dump's. By program.
-/
import Derived.Test.YtfpoihibfajhlaaDoorRows
import Derived.Test.YtfpoihibfajhlaaDoorAmRows
import Derived.Test.YtfpoihibfajhlaaDoorFns
import Derived.Test.YtfpoihibfajhlaaDoorPrims
set_option linter.all false
set_option linter.unusedVariables false
set_option linter.unusedSimpArgs false
set_option linter.unusedSectionVars false
set_option maxRecDepth 100000
namespace Go.Proofs.YtfpoihibfajhlaaDoor
open Go.Proofs.YtfpoihibfajhlaaDoor.Am Go.Proofs
def zs_0 : List Int := [1, 10, 100, 1000, 10000, 100000, 1000000, 10000000, 100000000, 1000000000, 10000000000, 100000000000, 1000000000000, 10000000000000, 100000000000000, 1000000000000000, 10000000000000000, 100000000000000000, 1000000000000000000, 10000000000000000000]
def gt : Nat → Option (List AV)
  | 0 => some (zs_0.map fun z => AV.i .u64 z)
  | _ => none
theorem l_touchstonelaw05_ExpandSplits : compF Tryd.prog gt false false [] Tryd.f3 = some c_touchstonelaw05_ExpandSplits := by kernel_rfl
theorem l_touchstonelaw05_ExpandKeeps : compF Tryd.prog gt false false [] Tryd.f5 = some c_touchstonelaw05_ExpandKeeps := by kernel_rfl
theorem l_touchstonelaw05_works : compF Tryd.prog gt false false [2000000002] Tryd.f6 = some c_touchstonelaw05_works := by kernel_rfl
theorem l_touchstonelaw05_large : compF Tryd.prog gt false false [1000007001] Tryd.f7 = some c_touchstonelaw05_large := by kernel_rfl
theorem l_touchstonelaw05_given : compF Tryd.prog gt false false [5000000001] Tryd.f8 = some c_touchstonelaw05_given := by kernel_rfl
theorem l_touchstonelaw05_blank : compF Tryd.prog gt false false [] Tryd.f9 = some c_touchstonelaw05_blank := by kernel_rfl
theorem l_expand_Fields : compF Tryd.prog gt false false [] Tryd.f10 = some c_expand_Fields := by kernel_rfl
theorem l_expand_Text : compF Tryd.prog gt false false [] Tryd.f11 = some c_expand_Text := by kernel_rfl
theorem l_touchstonelaw05_same : compF Tryd.prog gt false false [] Tryd.f12 = some c_touchstonelaw05_same := by kernel_rfl
theorem l_touchstonelaw05_par : compF Tryd.prog gt false false [] Tryd.f13 = some c_touchstonelaw05_par := by kernel_rfl
theorem l_expand_Value : compF Tryd.prog gt false false [] Tryd.f18 = some c_expand_Value := by kernel_rfl
theorem l_expand_Set : compF Tryd.prog gt false false [2000000005, 1000007009, 1000008009] Tryd.f22 = some c_expand_Set := by kernel_rfl
theorem l_touchstonelaw05_vars : compF Tryd.prog gt false false [] Tryd.f23 = some c_touchstonelaw05_vars := by kernel_rfl
theorem l_touchstonelaw05_fields : compF Tryd.prog gt false false [] Tryd.f24 = some c_touchstonelaw05_fields := by kernel_rfl
theorem l_touchstonelaw05_qpar : compF Tryd.prog gt false false [] Tryd.f25 = some c_touchstonelaw05_qpar := by kernel_rfl
theorem l_touchstonelaw05_lit : compF Tryd.prog gt false false [] Tryd.f26 = some c_touchstonelaw05_lit := by kernel_rfl
theorem l_touchstonelaw05_quo : compF Tryd.prog gt false false [] Tryd.f27 = some c_touchstonelaw05_quo := by kernel_rfl
theorem l_touchstonelaw05_texts : compF Tryd.prog gt false false [] Tryd.f28 = some c_touchstonelaw05_texts := by kernel_rfl
theorem l_expand_values : compF Tryd.prog gt false false [] Tryd.f29 = some c_expand_values := by kernel_rfl
theorem l_expand_builder_split : compF Tryd.prog gt false false [] Tryd.f30 = some c_expand_builder_split := by kernel_rfl
theorem l_expand_builder_add : compF Tryd.prog gt false false [] Tryd.f31 = some c_expand_builder_add := by kernel_rfl
theorem l_expand_builder_end : compF Tryd.prog gt false false [] Tryd.f32 = some c_expand_builder_end := by kernel_rfl
theorem l_strings_Builder_WriteString : compF Tryd.prog gt false false [] Tryd.f33 = some c_strings_Builder_WriteString := by kernel_rfl
theorem l_strings_Builder_String : compF Tryd.prog gt false false [] Tryd.f34 = some c_strings_Builder_String := by kernel_rfl
theorem l_slices_Index_string_string : compF Tryd.prog gt false false [] Tryd.f37 = some c_slices_Index_string_string := by kernel_rfl
theorem l_expand_isName : compF Tryd.prog gt false false [] Tryd.f40 = some c_expand_isName := by kernel_rfl
theorem l_slices_Clone_string_string : compF Tryd.prog gt true false [] Tryd.f41 = some c_slices_Clone_string_string := by kernel_rfl
theorem l_expand_values_1 : compF Tryd.prog gt false false [] Tryd.f44 = some c_expand_values_1 := by kernel_rfl
theorem l_strings_Builder_copyCheck : compF Tryd.prog gt false false [] Tryd.f45 = some c_strings_Builder_copyCheck := by kernel_rfl
theorem l_word_Param : compF Tryd.prog gt false false [] Tryd.f47 = some c_word_Param := by kernel_rfl
theorem l_strings_Contains : compF Tryd.prog gt false false [] Tryd.f52 = some c_strings_Contains := by kernel_rfl
theorem l_word_lead : compF Tryd.prog gt false false [] Tryd.f53 = some c_word_lead := by kernel_rfl
theorem l_strings_Index : compF Tryd.prog gt false false [] Tryd.f69 = some c_strings_Index := by kernel_rfl
theorem l_word_letter : compF Tryd.prog gt false false [] Tryd.f70 = some c_word_letter := by kernel_rfl
theorem l_word_digit : compF Tryd.prog gt false false [] Tryd.f71 = some c_word_digit := by kernel_rfl
theorem l_internal_stringslite_Index : compF Tryd.prog gt false false [] Tryd.f82 = some c_internal_stringslite_Index := by kernel_rfl
theorem l_internal_stringslite_IndexByte : compF Tryd.prog gt false false [] Tryd.f86 = some c_internal_stringslite_IndexByte := by kernel_rfl
theorem l_internal_bytealg_Cutover : compF Tryd.prog gt false false [] Tryd.f88 = some c_internal_bytealg_Cutover := by kernel_rfl
theorem l_internal_bytealg_IndexRabinKarp_string : compF Tryd.prog gt false false [] Tryd.f89 = some c_internal_bytealg_IndexRabinKarp_string := by kernel_rfl
theorem l_internal_bytealg_hashStr_string : compF Tryd.prog gt false false [] Tryd.f91 = some c_internal_bytealg_hashStr_string := by kernel_rfl
theorem tab_ok : tab.All (FunOk Tryd.prog gt) :=
  ⟨.inl ⟨rfl, Tryd.f32, [], false, Tryd.func32, l_expand_builder_end⟩, ⟨.inl ⟨rfl, Tryd.f18, [], false, Tryd.func18, l_expand_Value⟩, ⟨.inl ⟨rfl, Tryd.f9, [], false, Tryd.func9, l_touchstonelaw05_blank⟩, ⟨.inl ⟨rfl, Tryd.f6, [2000000002], false, Tryd.func6, l_touchstonelaw05_works⟩, ⟨.inl ⟨rfl, Tryd.f5, [], false, Tryd.func5, l_touchstonelaw05_ExpandKeeps⟩, ⟨.inl ⟨rfl, Tryd.f3, [], false, Tryd.func3, l_touchstonelaw05_ExpandSplits⟩, trivial, trivial⟩, trivial⟩, ⟨.inl ⟨rfl, Tryd.f8, [5000000001], false, Tryd.func8, l_touchstonelaw05_given⟩, ⟨.inl ⟨rfl, Tryd.f7, [1000007001], false, Tryd.func7, l_touchstonelaw05_large⟩, trivial, trivial⟩, trivial⟩⟩, ⟨.inl ⟨rfl, Tryd.f12, [], false, Tryd.func12, l_touchstonelaw05_same⟩, ⟨.inl ⟨rfl, Tryd.f11, [], false, Tryd.func11, l_expand_Text⟩, ⟨.inl ⟨rfl, Tryd.f10, [], false, Tryd.func10, l_expand_Fields⟩, trivial, trivial⟩, trivial⟩, ⟨.inl ⟨rfl, Tryd.f13, [], false, Tryd.func13, l_touchstonelaw05_par⟩, trivial, trivial⟩⟩⟩, ⟨.inl ⟨rfl, Tryd.f27, [], false, Tryd.func27, l_touchstonelaw05_quo⟩, ⟨.inl ⟨rfl, Tryd.f24, [], false, Tryd.func24, l_touchstonelaw05_fields⟩, ⟨.inl ⟨rfl, Tryd.f23, [], false, Tryd.func23, l_touchstonelaw05_vars⟩, ⟨.inl ⟨rfl, Tryd.f22, [2000000005, 1000007009, 1000008009], false, Tryd.func22, l_expand_Set⟩, trivial, trivial⟩, trivial⟩, ⟨.inl ⟨rfl, Tryd.f26, [], false, Tryd.func26, l_touchstonelaw05_lit⟩, ⟨.inl ⟨rfl, Tryd.f25, [], false, Tryd.func25, l_touchstonelaw05_qpar⟩, trivial, trivial⟩, trivial⟩⟩, ⟨.inl ⟨rfl, Tryd.f30, [], false, Tryd.func30, l_expand_builder_split⟩, ⟨.inl ⟨rfl, Tryd.f29, [], false, Tryd.func29, l_expand_values⟩, ⟨.inl ⟨rfl, Tryd.f28, [], false, Tryd.func28, l_touchstonelaw05_texts⟩, trivial, trivial⟩, trivial⟩, ⟨.inl ⟨rfl, Tryd.f31, [], false, Tryd.func31, l_expand_builder_add⟩, trivial, trivial⟩⟩⟩⟩, ⟨.inl ⟨rfl, Tryd.f47, [], false, Tryd.func47, l_word_Param⟩, ⟨.inl ⟨rfl, Tryd.f41, [], false, Tryd.func41, l_slices_Clone_string_string⟩, ⟨.inr ⟨_, rfl, primOk_strconv_Itoa⟩, ⟨.inl ⟨rfl, Tryd.f34, [], false, Tryd.func34, l_strings_Builder_String⟩, ⟨.inl ⟨rfl, Tryd.f33, [], false, Tryd.func33, l_strings_Builder_WriteString⟩, trivial, trivial⟩, trivial⟩, ⟨.inl ⟨rfl, Tryd.f40, [], false, Tryd.func40, l_expand_isName⟩, ⟨.inl ⟨rfl, Tryd.f37, [], false, Tryd.func37, l_slices_Index_string_string⟩, trivial, trivial⟩, trivial⟩⟩, ⟨.inl ⟨rfl, Tryd.f44, [], false, Tryd.func44, l_expand_values_1⟩, ⟨.inr ⟨_, rfl, primOk_slices_Compact_string_string⟩, ⟨.inr ⟨_, rfl, primOk_slices_Sort_string_string⟩, trivial, trivial⟩, trivial⟩, ⟨.inl ⟨rfl, Tryd.f45, [], false, Tryd.func45, l_strings_Builder_copyCheck⟩, trivial, trivial⟩⟩⟩, ⟨.inl ⟨rfl, Tryd.f82, [], false, Tryd.func82, l_internal_stringslite_Index⟩, ⟨.inl ⟨rfl, Tryd.f69, [], false, Tryd.func69, l_strings_Index⟩, ⟨.inl ⟨rfl, Tryd.f53, [], false, Tryd.func53, l_word_lead⟩, ⟨.inl ⟨rfl, Tryd.f52, [], false, Tryd.func52, l_strings_Contains⟩, trivial, trivial⟩, trivial⟩, ⟨.inl ⟨rfl, Tryd.f71, [], false, Tryd.func71, l_word_digit⟩, ⟨.inl ⟨rfl, Tryd.f70, [], false, Tryd.func70, l_word_letter⟩, trivial, trivial⟩, trivial⟩⟩, ⟨.inl ⟨rfl, Tryd.f89, [], false, Tryd.func89, l_internal_bytealg_IndexRabinKarp_string⟩, ⟨.inl ⟨rfl, Tryd.f88, [], false, Tryd.func88, l_internal_bytealg_Cutover⟩, ⟨.inl ⟨rfl, Tryd.f86, [], false, Tryd.func86, l_internal_stringslite_IndexByte⟩, trivial, trivial⟩, trivial⟩, ⟨.inl ⟨rfl, Tryd.f91, [], false, Tryd.func91, l_internal_bytealg_hashStr_string⟩, trivial, trivial⟩⟩⟩⟩⟩
theorem fns_ok : ∀ (f : Nat) (fn : Fun), prog f = some fn → FunOk Tryd.prog gt f fn := fun f fn h => PT.all_get tab_ok h
end Go.Proofs.YtfpoihibfajhlaaDoor
