/-
  The abstract machine's functions are the dump's. By program.
-/
import Derived.Test.YtfpoihibfajhlaaDoorRows
import Derived.Test.YtfpoihibfajhlaaDoorAmSound
import Derived.Test.YtfpoihibfajhlaaDoorFns
import Derived.Test.YtfpoihibfajhlaaDoorPrims
set_option linter.all false
set_option linter.unusedVariables false
set_option linter.unusedSimpArgs false
set_option linter.unusedSectionVars false
set_option maxRecDepth 100000
namespace Go.Proofs.YtfpoihibfajhlaaDoor
open Go.Proofs.YtfpoihibfajhlaaDoor.Am Go.Proofs
def zs_0 : List Int := [1, 10, 100, 1000, 10000, 100000, 1000000, 10000000, 100000000, 1000000000, 10000000000, 100000000000, 1000000000000, 10000000000000, 100000000000000, 1000000000000000, 10000000000000000, 100000000000000000, 1000000000000000000, 10000000000000000000]
def gt : Nat → Option (List AV)
  | 0 => some (zs_0.map fun z => AV.i .u64 z)
  | _ => none
theorem l_touchstonelaw05_ExpandSplits : compF Tryd.prog gt false false [] Tryd.f3 = some c_touchstonelaw05_ExpandSplits := by kernel_rfl
theorem l_touchstonelaw05_ExpandTexts : compF Tryd.prog gt false false [1000006002, 1000013001] Tryd.f4 = some c_touchstonelaw05_ExpandTexts := by kernel_rfl
theorem l_touchstonelaw05_works : compF Tryd.prog gt false false [2000000002] Tryd.f6 = some c_touchstonelaw05_works := by kernel_rfl
theorem l_touchstonelaw05_large : compF Tryd.prog gt false false [1000007001] Tryd.f7 = some c_touchstonelaw05_large := by kernel_rfl
theorem l_touchstonelaw05_given : compF Tryd.prog gt false false [5000000001] Tryd.f8 = some c_touchstonelaw05_given := by kernel_rfl
theorem l_touchstonelaw05_blank : compF Tryd.prog gt false false [] Tryd.f9 = some c_touchstonelaw05_blank := by kernel_rfl
theorem l_expand_Fields : compF Tryd.prog gt false false [] Tryd.f10 = some c_expand_Fields := by kernel_rfl
theorem l_expand_Text : compF Tryd.prog gt false false [] Tryd.f11 = some c_expand_Text := by kernel_rfl
theorem l_touchstonelaw05_same : compF Tryd.prog gt false false [] Tryd.f12 = some c_touchstonelaw05_same := by kernel_rfl
theorem l_touchstonelaw05_par : compF Tryd.prog gt false false [] Tryd.f13 = some c_touchstonelaw05_par := by kernel_rfl
theorem l_touchstoneref05_Text : compF Tryd.prog gt false false [] Tryd.f14 = some c_touchstoneref05_Text := by kernel_rfl
theorem l_touchstoneref05_Fields : compF Tryd.prog gt false false [1000008001, 1000009001] Tryd.f15 = some c_touchstoneref05_Fields := by kernel_rfl
theorem l_expand_Items : compF Tryd.prog gt false false [] Tryd.f16 = some c_expand_Items := by kernel_rfl
theorem l_touchstoneref05_Items : compF Tryd.prog gt false false [1000005001, 1000006001, 2000000007, 1000007001] Tryd.f17 = some c_touchstoneref05_Items := by kernel_rfl
theorem l_expand_Value : compF Tryd.prog gt false false [] Tryd.f18 = some c_expand_Value := by kernel_rfl
theorem l_touchstoneref05_Value : compF Tryd.prog gt false false [] Tryd.f19 = some c_touchstoneref05_Value := by kernel_rfl
theorem l_touchstoneref05_Same : compF Tryd.prog gt false false [] Tryd.f20 = some c_touchstoneref05_Same := by kernel_rfl
theorem l_touchstonelaw05_back : compF Tryd.prog gt false false [] Tryd.f21 = some c_touchstonelaw05_back := by kernel_rfl
theorem l_touchstonelaw05_vars : compF Tryd.prog gt false false [] Tryd.f23 = some c_touchstonelaw05_vars := by kernel_rfl
theorem l_touchstonelaw05_fields : compF Tryd.prog gt false false [] Tryd.f24 = some c_touchstonelaw05_fields := by kernel_rfl
theorem l_touchstonelaw05_qpar : compF Tryd.prog gt false false [] Tryd.f25 = some c_touchstonelaw05_qpar := by kernel_rfl
theorem l_touchstonelaw05_lit : compF Tryd.prog gt false false [] Tryd.f26 = some c_touchstonelaw05_lit := by kernel_rfl
theorem l_touchstonelaw05_quo : compF Tryd.prog gt false false [] Tryd.f27 = some c_touchstonelaw05_quo := by kernel_rfl
theorem l_touchstonelaw05_texts : compF Tryd.prog gt false false [] Tryd.f28 = some c_touchstonelaw05_texts := by kernel_rfl
theorem l_expand_values : compF Tryd.prog gt false false [] Tryd.f29 = some c_expand_values := by kernel_rfl
theorem l_expand_builder_split : compF Tryd.prog gt false false [] Tryd.f30 = some c_expand_builder_split := by kernel_rfl
theorem l_expand_builder_add : compF Tryd.prog gt false false [] Tryd.f31 = some c_expand_builder_add := by kernel_rfl
theorem l_expand_builder_end : compF Tryd.prog gt false false [] Tryd.f32 = some c_expand_builder_end := by kernel_rfl
theorem l_strings_Builder_WriteString : compF Tryd.prog gt false false [] Tryd.f33 = some c_strings_Builder_WriteString := by kernel_rfl
theorem l_strings_Builder_String : compF Tryd.prog gt false false [] Tryd.f34 = some c_strings_Builder_String := by kernel_rfl
theorem l_touchstoneref05_of : compF Tryd.prog gt false false [] Tryd.f35 = some c_touchstoneref05_of := by kernel_rfl
theorem l_slices_Index_string_string : compF Tryd.prog gt false false [] Tryd.f37 = some c_slices_Index_string_string := by kernel_rfl
theorem l_touchstoneref05_digits : compF Tryd.prog gt false false [] Tryd.f38 = some c_touchstoneref05_digits := by kernel_rfl
theorem l_touchstoneref05_texts : compF Tryd.prog gt false false [] Tryd.f39 = some c_touchstoneref05_texts := by kernel_rfl
theorem l_expand_values_1 : compF Tryd.prog gt false false [] Tryd.f44 = some c_expand_values_1 := by kernel_rfl
theorem l_strings_Builder_copyCheck : compF Tryd.prog gt false false [] Tryd.f45 = some c_strings_Builder_copyCheck := by kernel_rfl
theorem tab_ok : tab.All (FunOk Tryd.prog gt) :=
  ⟨.inl ⟨rfl, Tryd.f23, [], false, Tryd.func23, l_touchstonelaw05_vars⟩, ⟨.inl ⟨rfl, Tryd.f13, [], false, Tryd.func13, l_touchstonelaw05_par⟩, ⟨.inl ⟨rfl, Tryd.f8, [5000000001], false, Tryd.func8, l_touchstonelaw05_given⟩, ⟨.inl ⟨rfl, Tryd.f6, [2000000002], false, Tryd.func6, l_touchstonelaw05_works⟩, ⟨.inl ⟨rfl, Tryd.f4, [1000006002, 1000013001], false, Tryd.func4, l_touchstonelaw05_ExpandTexts⟩, ⟨.inl ⟨rfl, Tryd.f3, [], false, Tryd.func3, l_touchstonelaw05_ExpandSplits⟩, trivial, trivial⟩, trivial⟩, ⟨.inl ⟨rfl, Tryd.f7, [1000007001], false, Tryd.func7, l_touchstonelaw05_large⟩, trivial, trivial⟩⟩, ⟨.inl ⟨rfl, Tryd.f11, [], false, Tryd.func11, l_expand_Text⟩, ⟨.inl ⟨rfl, Tryd.f10, [], false, Tryd.func10, l_expand_Fields⟩, ⟨.inl ⟨rfl, Tryd.f9, [], false, Tryd.func9, l_touchstonelaw05_blank⟩, trivial, trivial⟩, trivial⟩, ⟨.inl ⟨rfl, Tryd.f12, [], false, Tryd.func12, l_touchstonelaw05_same⟩, trivial, trivial⟩⟩⟩, ⟨.inl ⟨rfl, Tryd.f18, [], false, Tryd.func18, l_expand_Value⟩, ⟨.inl ⟨rfl, Tryd.f16, [], false, Tryd.func16, l_expand_Items⟩, ⟨.inl ⟨rfl, Tryd.f15, [1000008001, 1000009001], false, Tryd.func15, l_touchstoneref05_Fields⟩, ⟨.inl ⟨rfl, Tryd.f14, [], false, Tryd.func14, l_touchstoneref05_Text⟩, trivial, trivial⟩, trivial⟩, ⟨.inl ⟨rfl, Tryd.f17, [1000005001, 1000006001, 2000000007, 1000007001], false, Tryd.func17, l_touchstoneref05_Items⟩, trivial, trivial⟩⟩, ⟨.inl ⟨rfl, Tryd.f20, [], false, Tryd.func20, l_touchstoneref05_Same⟩, ⟨.inl ⟨rfl, Tryd.f19, [], false, Tryd.func19, l_touchstoneref05_Value⟩, trivial, trivial⟩, ⟨.inl ⟨rfl, Tryd.f21, [], false, Tryd.func21, l_touchstonelaw05_back⟩, trivial, trivial⟩⟩⟩⟩, ⟨.inl ⟨rfl, Tryd.f33, [], false, Tryd.func33, l_strings_Builder_WriteString⟩, ⟨.inl ⟨rfl, Tryd.f28, [], false, Tryd.func28, l_touchstonelaw05_texts⟩, ⟨.inl ⟨rfl, Tryd.f26, [], false, Tryd.func26, l_touchstonelaw05_lit⟩, ⟨.inl ⟨rfl, Tryd.f25, [], false, Tryd.func25, l_touchstonelaw05_qpar⟩, ⟨.inl ⟨rfl, Tryd.f24, [], false, Tryd.func24, l_touchstonelaw05_fields⟩, trivial, trivial⟩, trivial⟩, ⟨.inl ⟨rfl, Tryd.f27, [], false, Tryd.func27, l_touchstonelaw05_quo⟩, trivial, trivial⟩⟩, ⟨.inl ⟨rfl, Tryd.f31, [], false, Tryd.func31, l_expand_builder_add⟩, ⟨.inl ⟨rfl, Tryd.f30, [], false, Tryd.func30, l_expand_builder_split⟩, ⟨.inl ⟨rfl, Tryd.f29, [], false, Tryd.func29, l_expand_values⟩, trivial, trivial⟩, trivial⟩, ⟨.inl ⟨rfl, Tryd.f32, [], false, Tryd.func32, l_expand_builder_end⟩, trivial, trivial⟩⟩⟩, ⟨.inl ⟨rfl, Tryd.f38, [], false, Tryd.func38, l_touchstoneref05_digits⟩, ⟨.inr ⟨_, rfl, primOk_strconv_Itoa⟩, ⟨.inl ⟨rfl, Tryd.f35, [], false, Tryd.func35, l_touchstoneref05_of⟩, ⟨.inl ⟨rfl, Tryd.f34, [], false, Tryd.func34, l_strings_Builder_String⟩, trivial, trivial⟩, trivial⟩, ⟨.inl ⟨rfl, Tryd.f37, [], false, Tryd.func37, l_slices_Index_string_string⟩, trivial, trivial⟩⟩, ⟨.inl ⟨rfl, Tryd.f44, [], false, Tryd.func44, l_expand_values_1⟩, ⟨.inl ⟨rfl, Tryd.f39, [], false, Tryd.func39, l_touchstoneref05_texts⟩, trivial, trivial⟩, ⟨.inl ⟨rfl, Tryd.f45, [], false, Tryd.func45, l_strings_Builder_copyCheck⟩, trivial, trivial⟩⟩⟩⟩⟩
theorem fns_ok : ∀ (f : Nat) (fn : Fun), prog f = some fn → FunOk Tryd.prog gt f fn := fun f fn h => PT.all_get tab_ok h
end Go.Proofs.YtfpoihibfajhlaaDoor
