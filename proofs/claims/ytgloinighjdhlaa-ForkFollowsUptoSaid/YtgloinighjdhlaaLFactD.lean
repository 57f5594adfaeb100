/-
  The abstract machine's functions are the dump's. By program.
-/
import Derived.Test.YtgloinighjdhlaaRows
import Derived.Test.YtgloinighjdhlaaAmKeep
import Derived.Test.YtgloinighjdhlaaFns
import Derived.Test.YtgloinighjdhlaaPrims
import Derived.KernelRfl
import Derived.Test.YtgloinighjdhlaaAmHpI
import Derived.Laws.RangeAny
set_option linter.all false
set_option linter.unusedVariables false
set_option linter.unusedSimpArgs false
set_option linter.unusedSectionVars false
set_option maxRecDepth 100000
namespace Go.Proofs.Ytgloinighjdhlaa
open Go.Proofs.Ytgloinighjdhlaa.Am Go.Proofs
def gt : Nat → Option (List AV)
  | _ => none
theorem l_touchstonelaw24_ForkFollows : compF Try.prog gt false false [] Try.f4 = some c_touchstonelaw24_ForkFollows := by kernel_rfl
theorem l_touchstonelaw24_long : compF Try.prog gt false false [1000006000, 1000009000, 1000011000] Try.f7 = some c_touchstonelaw24_long := by kernel_rfl
theorem l_touchstonelaw24_awake : compF Try.prog gt false false [1000005006] Try.f8 = some cR_touchstonelaw24_awake := by kernel_rfl
theorem l_fork_Ways : compF Try.prog gt false false [] Try.f9 = some c_fork_Ways := by kernel_rfl
theorem l_touchstoneref24_Ways : compF Try.prog gt false false [] Try.f10 = some c_touchstoneref24_Ways := by kernel_rfl
theorem l_touchstoneref20_Same : compF Try.prog gt false false [] Try.f11 = some c_touchstoneref20_Same := by kernel_rfl
theorem l_fork_Follow : compF Try.prog gt false false [] Try.f13 = some c_fork_Follow := by kernel_rfl
theorem l_touchstonelaw24_given : compF Try.prog gt false false [1000005000] Try.f14 = some c_touchstonelaw24_given := by kernel_rfl
theorem l_touchstoneref24_Follow : compF Try.prog gt false false [] Try.f15 = some c_touchstoneref24_Follow := by kernel_rfl
theorem l_pat_May : compF Try.prog gt false false [1000014003] Try.f28 = some c_pat_May := by kernel_rfl
theorem l_fork_Split_calls : compF Try.prog gt false false [] Try.f30 = some c_fork_Split_calls := by kernel_rfl
theorem l_touchstoneref22_More : compF Try.prog gt false false [] Try.f31 = some c_touchstoneref22_More := by kernel_rfl
theorem l_touchstoneref22_Whole : compF Try.prog gt false false [1000013000] Try.f32 = some c_touchstoneref22_Whole := by kernel_rfl
theorem l_touchstoneref22_Know : compF Try.prog gt false false [1000004000] Try.f33 = some c_touchstoneref22_Know := by kernel_rfl
theorem l_touchstoneref06_Same : compF Try.prog gt false false [] Try.f34 = some c_touchstoneref06_Same := by kernel_rfl
theorem l_slices_Clone_api_Fact_api_Fact : compF Try.prog gt true false [] Try.f35 = some c_slices_Clone_api_Fact_api_Fact := by kernel_rfl
theorem l_touchstoneref20_May : compF Try.prog gt false false [1000009000] Try.f39 = some c_touchstoneref20_May := by kernel_rfl
theorem l_pat_dir : compF Try.prog gt false false [] Try.f50 = some c_pat_dir := by kernel_rfl
theorem l_pat_one : compF Try.prog gt false false [] Try.f51 = some c_pat_one := by kernel_rfl
theorem l_slices_ContainsFunc_int_int : compF Try.prog gt false false [] Try.f52 = some c_slices_ContainsFunc_int_int := by kernel_rfl
theorem l_pat_May_1 : compF Try.prog gt false false [] Try.f53 = some c_pat_May_1 := by kernel_rfl
theorem l_fork_Split_calls_1 : compF Try.prog gt false false [] Try.f54 = some c_fork_Split_calls_1 := by kernel_rfl
theorem l_store_Whole : compF Try.prog gt false false [] Try.f55 = some c_store_Whole := by kernel_rfl
theorem l_fork_Split_calls_2 : compF Try.prog gt false false [] Try.f56 = some c_fork_Split_calls_2 := by kernel_rfl
theorem l_store_More : compF Try.prog gt false false [] Try.f57 = some c_store_More := by kernel_rfl
theorem l_fork_kinds : compF Try.prog gt false false [] Try.f58 = some c_fork_kinds := by kernel_rfl
theorem l_fork_Split_calls_3 : compF Try.prog gt false false [] Try.f59 = some c_fork_Split_calls_3 := by kernel_rfl
theorem l_store_Know : compF Try.prog gt false false [] Try.f60 = some c_store_Know := by kernel_rfl
theorem l_touchstoneref22_dir : compF Try.prog gt false false [1000002000] Try.f61 = some c_touchstoneref22_dir := by kernel_rfl
theorem l_touchstoneref22_with : compF Try.prog gt false false [1000002007] Try.f62 = some c_touchstoneref22_with := by kernel_rfl
theorem l_touchstoneref22_Beside : compF Try.prog gt false false [] Try.f63 = some c_touchstoneref22_Beside := by kernel_rfl
theorem l_touchstoneref22_wrong : compF Try.prog gt false false [] Try.f64 = some c_touchstoneref22_wrong := by kernel_rfl
theorem l_touchstoneref06_Under : compF Try.prog gt false false [] Try.f65 = some c_touchstoneref06_Under := by kernel_rfl
theorem l_touchstoneref20_dir : compF Try.prog gt false false [] Try.f75 = some c_touchstoneref20_dir := by kernel_rfl
theorem l_touchstoneref20_one : compF Try.prog gt false false [] Try.f76 = some c_touchstoneref20_one := by kernel_rfl
theorem l_touchstoneref20_above : compF Try.prog gt false false [1000006000, 1000008000] Try.f77 = some c_touchstoneref20_above := by kernel_rfl
theorem l_slices_Clone_string_string : compF Try.prog gt true false [] Try.f81 = some c_slices_Clone_string_string := by kernel_rfl
theorem l_touchstoneref06_Name : compF Try.prog gt false false [] Try.f83 = some c_touchstoneref06_Name := by kernel_rfl
theorem l_path_Name : compF Try.prog gt false false [] Try.f84 = some c_path_Name := by kernel_rfl
theorem l_slices_IndexFunc_int_int : compF Try.prog gt false false [] Try.f85 = some c_slices_IndexFunc_int_int := by kernel_rfl
theorem l_store_change : compF Try.prog gt false false [1000009011] Try.f86 = some c_store_change := by kernel_rfl
theorem l_store_Whole_1 : compF Try.prog gt false false [] Try.f87 = some c_store_Whole_1 := by kernel_rfl
theorem l_store_dir : compF Try.prog gt false false [] Try.f88 = some c_store_dir := by kernel_rfl
theorem l_store_there : compF Try.prog gt false false [] Try.f89 = some c_store_there := by kernel_rfl
theorem l_store_Whole_2 : compF Try.prog gt false false [] Try.f90 = some c_store_Whole_2 := by kernel_rfl
theorem l_store_More_1 : compF Try.prog gt false false [] Try.f91 = some c_store_More_1 := by kernel_rfl
theorem l_store_More_2 : compF Try.prog gt false false [] Try.f92 = some c_store_More_2 := by kernel_rfl
theorem l_fork_kinds_1 : compF Try.prog gt false false [] Try.f93 = some c_fork_kinds_1 := by kernel_rfl
theorem l_store_Know_1 : compF Try.prog gt false false [] Try.f94 = some c_store_Know_1 := by kernel_rfl
theorem l_store_Know_2 : compF Try.prog gt false false [] Try.f95 = some c_store_Know_2 := by kernel_rfl
theorem l_strings_IndexByte : compF Try.prog gt false false [] Try.f96 = some c_strings_IndexByte := by kernel_rfl
theorem l_slices_Sorted_int : compF Try.prog gt false false [1000002003] Try.f100 = some c_slices_Sorted_int := by kernel_rfl
theorem l_slices_Values_int_int : compF Try.prog gt false false [] Try.f101 = some c_slices_Values_int_int := by kernel_rfl
theorem l_strings_ContainsAny : compF Try.prog gt false false [] Try.f108 = some c_strings_ContainsAny := by kernel_rfl
theorem l_store_own : compF Try.prog gt true false [2000000005, 1000005003] Try.f109 = some c_store_own := by kernel_rfl
theorem l_store_there_1 : compF Try.prog gt false false [] Try.f110 = some c_store_there_1 := by kernel_rfl
theorem l_internal_stringslite_IndexByte : compF Try.prog gt false false [] Try.f111 = some c_internal_stringslite_IndexByte := by kernel_rfl
theorem l_slices_Collect_int : compF Try.prog gt true false [] Try.f113 = some c_slices_Collect_int := by kernel_rfl
theorem l_slices_Values_int_int_1 : compF Try.prog gt false false [] Try.f115 = some c_slices_Values_int_int_1 := by kernel_rfl
theorem l_strings_IndexAny : compF Try.prog gt false false [] Try.f119 = some c_strings_IndexAny := by kernel_rfl
theorem l_slices_Clone_int_int : compF Try.prog gt true false [] Try.f120 = some c_slices_Clone_int_int := by kernel_rfl
theorem l_slices_AppendSeq_int_int : compF Try.prog gt true true [] Try.f122 = some c_slices_AppendSeq_int_int := by kernel_rfl
theorem l_strings_IndexRune : compF Try.prog gt false false [] Try.f126 = some c_strings_IndexRune := by kernel_rfl
theorem l_strings_shouldUseASCIISet : compF Try.prog gt false false [] Try.f127 = some c_strings_shouldUseASCIISet := by kernel_rfl
theorem l_strings_makeASCIISet : compF Try.prog gt false false [] Try.f128 = some c_strings_makeASCIISet := by kernel_rfl
theorem l_strings_asciiSet_contains : compF Try.prog gt false false [] Try.f129 = some c_strings_asciiSet_contains := by kernel_rfl
theorem l_unicode_utf8_ValidRune : compF Try.prog gt false false [] Try.f141 = some c_unicode_utf8_ValidRune := by kernel_rfl
theorem l_internal_bytealg_Cutover : compF Try.prog gt false false [] Try.f142 = some c_internal_bytealg_Cutover := by kernel_rfl
theorem tabC_ok : tabC.All (FunOk Try.prog gt) :=
  ⟨.inl ⟨rfl, Try.f90, [], false, Try.func90, l_store_Whole_2⟩, ⟨.inl ⟨rfl, Try.f56, [], false, Try.func56, l_fork_Split_calls_2⟩, ⟨.inl ⟨rfl, Try.f50, [], false, Try.func50, l_pat_dir⟩, ⟨.inl ⟨rfl, Try.f28, [1000014003], false, Try.func28, l_pat_May⟩, ⟨.inl ⟨rfl, Try.f9, [], false, Try.func9, l_fork_Ways⟩, ⟨.inl ⟨rfl, Try.f8, [1000005006], false, Try.func8, l_touchstonelaw24_awake⟩, trivial, trivial⟩, ⟨.inl ⟨rfl, Try.f13, [], false, Try.func13, l_fork_Follow⟩, trivial, trivial⟩⟩, ⟨.inl ⟨rfl, Try.f35, [], false, Try.func35, l_slices_Clone_api_Fact_api_Fact⟩, ⟨.inl ⟨rfl, Try.f30, [], false, Try.func30, l_fork_Split_calls⟩, trivial, trivial⟩, trivial⟩⟩, ⟨.inl ⟨rfl, Try.f53, [], false, Try.func53, l_pat_May_1⟩, ⟨.inl ⟨rfl, Try.f52, [], false, Try.func52, l_slices_ContainsFunc_int_int⟩, ⟨.inl ⟨rfl, Try.f51, [], false, Try.func51, l_pat_one⟩, trivial, trivial⟩, trivial⟩, ⟨.inl ⟨rfl, Try.f55, [], false, Try.func55, l_store_Whole⟩, ⟨.inl ⟨rfl, Try.f54, [], false, Try.func54, l_fork_Split_calls_1⟩, trivial, trivial⟩, trivial⟩⟩⟩, ⟨.inl ⟨rfl, Try.f84, [], false, Try.func84, l_path_Name⟩, ⟨.inl ⟨rfl, Try.f59, [], false, Try.func59, l_fork_Split_calls_3⟩, ⟨.inl ⟨rfl, Try.f58, [], false, Try.func58, l_fork_kinds⟩, ⟨.inl ⟨rfl, Try.f57, [], false, Try.func57, l_store_More⟩, trivial, trivial⟩, trivial⟩, ⟨.inl ⟨rfl, Try.f81, [], false, Try.func81, l_slices_Clone_string_string⟩, ⟨.inl ⟨rfl, Try.f60, [], false, Try.func60, l_store_Know⟩, trivial, trivial⟩, trivial⟩⟩, ⟨.inl ⟨rfl, Try.f87, [], false, Try.func87, l_store_Whole_1⟩, ⟨.inl ⟨rfl, Try.f86, [1000009011], false, Try.func86, l_store_change⟩, ⟨.inl ⟨rfl, Try.f85, [], false, Try.func85, l_slices_IndexFunc_int_int⟩, trivial, trivial⟩, trivial⟩, ⟨.inl ⟨rfl, Try.f89, [], false, Try.func89, l_store_there⟩, ⟨.inl ⟨rfl, Try.f88, [], false, Try.func88, l_store_dir⟩, trivial, trivial⟩, trivial⟩⟩⟩⟩, ⟨.inl ⟨rfl, Try.f113, [], false, Try.func113, l_slices_Collect_int⟩, ⟨.inl ⟨rfl, Try.f100, [1000002003], false, Try.func100, l_slices_Sorted_int⟩, ⟨.inl ⟨rfl, Try.f94, [], false, Try.func94, l_store_Know_1⟩, ⟨.inl ⟨rfl, Try.f92, [], false, Try.func92, l_store_More_2⟩, ⟨.inl ⟨rfl, Try.f91, [], false, Try.func91, l_store_More_1⟩, trivial, trivial⟩, ⟨.inl ⟨rfl, Try.f93, [], false, Try.func93, l_fork_kinds_1⟩, trivial, trivial⟩⟩, ⟨.inl ⟨rfl, Try.f96, [], false, Try.func96, l_strings_IndexByte⟩, ⟨.inl ⟨rfl, Try.f95, [], false, Try.func95, l_store_Know_2⟩, trivial, trivial⟩, trivial⟩⟩, ⟨.inl ⟨rfl, Try.f109, [2000000005, 1000005003], false, Try.func109, l_store_own⟩, ⟨.inl ⟨rfl, Try.f108, [], false, Try.func108, l_strings_ContainsAny⟩, ⟨.inl ⟨rfl, Try.f101, [], false, Try.func101, l_slices_Values_int_int⟩, trivial, trivial⟩, trivial⟩, ⟨.inl ⟨rfl, Try.f111, [], false, Try.func111, l_internal_stringslite_IndexByte⟩, ⟨.inl ⟨rfl, Try.f110, [], false, Try.func110, l_store_there_1⟩, trivial, trivial⟩, trivial⟩⟩⟩, ⟨.inl ⟨rfl, Try.f126, [], false, Try.func126, l_strings_IndexRune⟩, ⟨.inl ⟨rfl, Try.f119, [], false, Try.func119, l_strings_IndexAny⟩, ⟨.inl ⟨rfl, Try.f115, [], false, Try.func115, l_slices_Values_int_int_1⟩, ⟨.inr ⟨_, rfl, primOk_slices_Sort_int_int⟩, trivial, trivial⟩, trivial⟩, ⟨.inl ⟨rfl, Try.f122, [], true, Try.func122, l_slices_AppendSeq_int_int⟩, ⟨.inl ⟨rfl, Try.f120, [], false, Try.func120, l_slices_Clone_int_int⟩, trivial, trivial⟩, trivial⟩⟩, ⟨.inl ⟨rfl, Try.f129, [], false, Try.func129, l_strings_asciiSet_contains⟩, ⟨.inl ⟨rfl, Try.f128, [], false, Try.func128, l_strings_makeASCIISet⟩, ⟨.inl ⟨rfl, Try.f127, [], false, Try.func127, l_strings_shouldUseASCIISet⟩, trivial, trivial⟩, trivial⟩, ⟨.inl ⟨rfl, Try.f142, [], false, Try.func142, l_internal_bytealg_Cutover⟩, ⟨.inl ⟨rfl, Try.f141, [], false, Try.func141, l_unicode_utf8_ValidRune⟩, trivial, trivial⟩, trivial⟩⟩⟩⟩⟩
theorem fnsC_ok : ∀ (f : Nat) (fn : Fun), progC f = some fn → FunOk Try.prog gt f fn := fun f fn h => PT.all_get tabC_ok h
end Go.Proofs.Ytgloinighjdhlaa

/-
  Facts as plain data: two ways to ask whether their numbers stand as they may.
-/
namespace Go.Proofs.Ytgloinighjdhlaa
def inR (m : Nat) (x : Int) : Bool := decide (1 ≤ x) && decide (x ≤ m)
theorem sum_const1 (f : Nat → Nat) : ∀ m, (∀ j, j < m → f j = 1) → ((List.range m).map f).sum = m
  | 0, _ => rfl
  | m + 1, h => by
    rw [List.range_succ, List.map_append, List.sum_append, sum_const1 f m (fun j hj => h j (by omega))]
    simp [h m (by omega)]
theorem sum_ite (m : Nat) (x : Int) : ((List.range m).map fun j : Nat => if x = (j : Int) + 1 then 1 else 0).sum = if inR m x then 1 else 0 := by
  induction m with
  | zero =>
    have : inR 0 x = false := by simp [inR]; omega
    simp [this]
  | succ m ih =>
    rw [List.range_succ, List.map_append, List.sum_append, ih]
    simp only [List.map_cons, List.map_nil, List.sum_cons, List.sum_nil, inR]
    by_cases h1 : x = (m : Int) + 1
    · have a1 : ¬ (1 ≤ x ∧ x ≤ (m : Int)) := by omega
      have a2 : 1 ≤ x ∧ x ≤ ((m + 1 : Nat) : Int) := by omega
      simp only [← Bool.decide_and, decide_eq_true_eq]
      rw [if_pos h1, if_neg a1, if_pos a2]; rfl
    · simp only [← Bool.decide_and, decide_eq_true_eq]
      rw [if_neg h1]
      by_cases h2 : 1 ≤ x ∧ x ≤ (m : Int)
      · have a2 : 1 ≤ x ∧ x ≤ ((m + 1 : Nat) : Int) := by omega
        rw [if_pos h2, if_pos a2]; rfl
      · have a2 : ¬ (1 ≤ x ∧ x ≤ ((m + 1 : Nat) : Int)) := by omega
        rw [if_neg h2, if_neg a2]; rfl
theorem sum_add (f g : Nat → Nat) : ∀ l : List Nat, (l.map fun j => f j + g j).sum = (l.map f).sum + (l.map g).sum
  | [] => rfl
  | a :: l => by simp only [List.map_cons, List.sum_cons, sum_add f g l]; omega
theorem sum_count (m : Nat) : ∀ F : List Int, ((List.range m).map fun j : Nat => F.count ((j : Int) + 1)).sum = F.countP (inR m)
  | [] => by
    simp only [List.count_nil, List.countP_nil]
    induction m with
    | zero => rfl
    | succ m ih => rw [List.range_succ, List.map_append, List.sum_append, ih]; rfl
  | x :: F => by
    have h : (fun j : Nat => (x :: F).count ((j : Int) + 1)) = fun j : Nat => F.count ((j : Int) + 1) + (if x = (j : Int) + 1 then 1 else 0) := by
      funext j
      rw [List.count_cons]
      simp only [beq_iff_eq]
    rw [h, sum_add, sum_count m F, sum_ite, List.countP_cons]
theorem once_countP {m : Nat} {F : List Int} (h : ∀ j, 1 ≤ j → j ≤ m → F.count (j : Int) = 1) : F.countP (inR m) = m := by
  rw [← sum_count]
  refine sum_const1 _ m fun j hj => ?_
  have := h (j + 1) (by omega) (by omega)
  simpa using this
theorem once_length {m : Nat} {F : List Int} (h : ∀ j, 1 ≤ j → j ≤ m → F.count (j : Int) = 1) (hr : ∀ x ∈ F, 1 ≤ x ∧ x ≤ (m : Int)) : F.length = m := by
  rw [← once_countP h]
  exact (List.countP_eq_length.2 fun x hx => by simp [inR, hr x hx]).symm
theorem once_range {m : Nat} {F : List Int} (h : ∀ j, 1 ≤ j → j ≤ m → F.count (j : Int) = 1) (hl : F.length = m) : ∀ x ∈ F, 1 ≤ x ∧ x ≤ (m : Int) := by
  have h1 := once_countP h
  rw [← hl] at h1
  intro x hx
  have h2 : F.countP (inR m) = F.length := by rw [hl] at h1 ⊢; exact h1
  have := List.countP_eq_length.1 h2 x hx
  simpa [inR] using this
structure FT where
  known : Bool
  kind : Nat
  names : List (List Nat)
  kids : List Int
  rest : Int
  beside : Int
def flatK (l : List FT) : List Int := (l.map FT.kids).flatten
def cntK (l : List FT) (j : Int) : Nat := (flatK l).count j
def behind (n : Nat) : Nat → List FT → Bool
  | _, [] => true
  | i, f :: l => (f.kids.all fun k => decide ((i : Int) < k) && decide (k < (n : Int))) && behind n (i + 1) l
def onceK (l : List FT) : Bool := (List.range (l.length - 1)).all fun j => decide (cntK l ((j : Int) + 1) = 1)
theorem behind_get {n : Nat} : ∀ {l : List FT} {i : Nat}, behind n i l = true ↔ ∀ (a : Nat) (f : FT), l[a]? = some f → ∀ k ∈ f.kids, ((i + a : Nat) : Int) < k ∧ k < (n : Int)
  | [], i => by simp [behind]
  | f :: l, i => by
    simp only [behind, Bool.and_eq_true, List.all_eq_true, decide_eq_true_eq, behind_get (l := l)]
    constructor
    · rintro ⟨h1, h2⟩ a g hg k hk
      cases a with
      | zero => simp only [List.getElem?_cons_zero, Option.some.injEq] at hg; subst hg; exact h1 k hk
      | succ a =>
        have := h2 a g (by simpa using hg) k hk
        exact ⟨by omega, this.2⟩
    · intro h
      refine ⟨fun k hk => h 0 f rfl k hk, fun a g hg k hk => ?_⟩
      have := h (a + 1) g (by simpa using hg) k hk
      exact ⟨by omega, this.2⟩
theorem once_iff {l : List FT} : onceK l = true ↔ ∀ j, 1 ≤ j → j ≤ l.length - 1 → cntK l (j : Int) = 1 := by
  simp only [onceK, List.all_eq_true, List.mem_range, decide_eq_true_eq]
  constructor
  · intro h j h1 h2
    have := h (j - 1) (by omega)
    rw [show (((j - 1 : Nat) : Int) + 1) = (j : Int) by omega] at this
    exact this
  · intro h j hj
    have := h (j + 1) (by omega) (by omega)
    simpa using this
def aboveN (l : List FT) (j : Int) : Option Nat := if cntK l j = 1 then l.findIdx? fun f => f.kids.contains j else none
theorem above_some {l : List FT} {j : Int} (h : cntK l j = 1) : ∃ i f, aboveN l j = some i ∧ l[i]? = some f ∧ j ∈ f.kids := by
  have hm : j ∈ flatK l := by
    rw [← List.count_pos_iff]
    unfold cntK at h
    omega
  unfold flatK at hm
  rw [List.mem_flatten] at hm
  obtain ⟨ks, hks, hj⟩ := hm
  obtain ⟨f, hf, rfl⟩ := List.mem_map.1 hks
  unfold aboveN
  rw [if_pos h]
  cases hi : l.findIdx? fun f => f.kids.contains j with
  | none =>
    rw [List.findIdx?_eq_none_iff] at hi
    have := hi f hf
    simp [hj] at this
  | some i =>
    rw [List.findIdx?_eq_some_iff_getElem] at hi
    obtain ⟨h1, h2, _⟩ := hi
    exact ⟨i, l[i], rfl, List.getElem?_eq_getElem h1, by simpa using h2⟩
theorem flat_get {l : List FT} {i : Nat} {f : FT} (h : l[i]? = some f) {k : Int} (hk : k ∈ f.kids) : k ∈ flatK l := by
  unfold flatK
  rw [List.mem_flatten]
  exact ⟨f.kids, List.mem_map.2 ⟨f, List.mem_of_getElem? h, rfl⟩, hk⟩
theorem count_two {l : List FT} {i i' : Nat} {f f' : FT} (hii : i ≠ i') (h : l[i]? = some f) (h' : l[i']? = some f') {k : Int} (hk : k ∈ f.kids) (hk' : k ∈ f'.kids) : 2 ≤ cntK l k := by
  have key : ∀ {l : List FT} {i i' : Nat} {f f' : FT}, i < i' → l[i]? = some f → l[i']? = some f' → k ∈ f.kids → k ∈ f'.kids → 2 ≤ cntK l k := by
    intro l
    induction l with
    | nil => intro i i' f f' _ h; simp at h
    | cons a l ih =>
      intro i i' f f' hlt h h' hk hk'
      have hc : cntK (a :: l) k = a.kids.count k + cntK l k := by simp [cntK, flatK, List.count_append]
      cases i' with
      | zero => omega
      | succ i' =>
        cases i with
        | zero =>
          simp only [List.getElem?_cons_zero, Option.some.injEq] at h
          subst h
          have h1 := List.count_pos_iff.2 hk
          have h2 : 0 < cntK l k := List.count_pos_iff.2 (flat_get (by simpa using h') hk')
          omega
        | succ i =>
          have := ih (i := i) (i' := i') (by omega) (by simpa using h) (by simpa using h') hk hk'
          omega
  rcases Nat.lt_or_ge i i' with hlt | hge
  · exact key hlt h h' hk hk'
  · exact key (by omega) h' h hk' hk
theorem above_at {l : List FT} {j : Int} (h : cntK l j = 1) {i : Nat} {f : FT} (hf : l[i]? = some f) (hj : j ∈ f.kids) : aboveN l j = some i := by
  obtain ⟨i', f', h1, h2, h3⟩ := above_some h
  by_cases hii : i = i'
  · rw [h1, hii]
  · have := count_two hii hf h2 hj h3
    omega
def upB (l : List FT) : Bool := (List.range (l.length - 1)).all fun j => match aboveN l ((j : Int) + 1) with
  | some n => decide (n < j + 1)
  | none => false
theorem up_iff {l : List FT} : upB l = true ↔ ∀ j, 1 ≤ j → j ≤ l.length - 1 → ∃ n, aboveN l (j : Int) = some n ∧ n < j := by
  simp only [upB, List.all_eq_true, List.mem_range]
  constructor
  · intro h j h1 h2
    have := h (j - 1) (by omega)
    rw [show (((j - 1 : Nat) : Int) + 1) = (j : Int) by omega] at this
    cases ha : aboveN l (j : Int) with
    | none => rw [ha] at this; cases this
    | some n => rw [ha] at this; exact ⟨n, rfl, by have := of_decide_eq_true this; omega⟩
  · intro h j hj
    obtain ⟨n, h1, h2⟩ := h (j + 1) (by omega) (by omega)
    rw [show ((j : Int) + 1) = ((j + 1 : Nat) : Int) by omega, h1]
    simp only [decide_eq_true_eq]
    omega
theorem may_two (l : List FT) (hl : l ≠ []) : (behind l.length 0 l && onceK l) = (decide ((flatK l).length = l.length - 1) && upB l) := by
  have hpos := List.length_pos_iff.2 hl
  rw [Bool.eq_iff_iff]
  simp only [Bool.and_eq_true, decide_eq_true_eq, behind_get, once_iff, up_iff]
  constructor
  · rintro ⟨hb, ho⟩
    have hr : ∀ x ∈ flatK l, 1 ≤ x ∧ x ≤ ((l.length - 1 : Nat) : Int) := by
      intro x hx
      unfold flatK at hx
      rw [List.mem_flatten] at hx
      obtain ⟨ks, hks, hj⟩ := hx
      obtain ⟨f, hf, rfl⟩ := List.mem_map.1 hks
      obtain ⟨i, hi, he⟩ := List.mem_iff_getElem.1 hf
      have := hb i f (by rw [List.getElem?_eq_getElem hi, he]) x hj
      omega
    refine ⟨once_length ho hr, fun j h1 h2 => ?_⟩
    obtain ⟨i, f, k1, k2, k3⟩ := above_some (ho j h1 h2)
    have := hb i f k2 _ k3
    exact ⟨i, k1, by omega⟩
  · rintro ⟨ht, hu⟩
    have ho : ∀ j, 1 ≤ j → j ≤ l.length - 1 → cntK l (j : Int) = 1 := by
      intro j h1 h2
      obtain ⟨n, k1, _⟩ := hu j h1 h2
      unfold aboveN at k1
      split at k1
      · assumption
      · cases k1
    refine ⟨fun a f hf k hk => ?_, ho⟩
    have hr := once_range ho ht k (flat_get hf hk)
    obtain ⟨j, rfl⟩ : ∃ j : Nat, k = (j : Int) := ⟨k.toNat, by omega⟩
    have h1 : 1 ≤ j := by omega
    have h2 : j ≤ l.length - 1 := by omega
    obtain ⟨n, k1, k2⟩ := hu j h1 h2
    have := above_at (ho j h1 h2) hf hk
    rw [k1] at this
    cases this
    omega
end Go.Proofs.Ytgloinighjdhlaa

/-
  What the functions of path come to on the abstract machine.
-/
set_option maxRecDepth 100000
set_option linter.unusedSimpArgs false
namespace Go.Proofs.Ytgloinighjdhlaa
open Go.Proofs.Ytgloinighjdhlaa.Am
abbrev tx (L : List (List Nat)) : AV := .ws false 1 (L.map .s)
theorem natOf_nat (k : IntKind) (i : Nat) : natOf (.i k (i : Int)) = some i := by simp [natOf]
theorem tx_get {L : List (List Nat)} {i : Nat} (h : i < L.length) : (L.map AV.s)[i]? = some (.s L[i]) := by simp [h]
theorem ldA_1 (s : St) (v : AV) : ldA s false 1 (.ep [v] 0 .shut) = some v := rfl
theorem cells_s (l : List Nat) : (AV.s l).cells = [.s l] := rfl
theorem wrap_nat {i : Nat} (h : i < 2 ^ 63) : IntKind.i64.wrap (i : Int) = i := by
  have e1 : ((i : Int) % 2 ^ 64) = i := by omega
  simp only [IntKind.wrap, IntKind.signed, IntKind.bits, e1]
  rw [if_neg]
  simp; omega
theorem wrap_succ {i : Nat} (h : i + 1 < 2 ^ 63) : IntKind.i64.wrap ((i : Int) + 1) = ((i + 1 : Nat) : Int) := by
  rw [← wrap_nat h]; simp
theorem ofNat_len (n : Nat) : Int.ofNat n = (n : Int) := rfl
def undP (L M : List (List Nat)) : Bool := decide (M.take L.length = L)
theorem und_len {L M : List (List Nat)} (h : M.take L.length = L) : L.length ≤ M.length := by
  have := congrArg List.length h
  rw [List.length_take] at this
  omega
theorem und_get {L M : List (List Nat)} (h : M.take L.length = L) {i : Nat} (h1 : i < L.length) (h2 : i < M.length) : L[i] = M[i] := by
  have := congrArg (fun l => l[i]?) h
  simp only [List.getElem?_take, if_pos h1, List.getElem?_eq_getElem h1, List.getElem?_eq_getElem h2, Option.some.injEq] at this
  exact this.symm
theorem take_step {L M : List (List Nat)} {i : Nat} (h : L.take i = M.take i) (h1 : i < L.length) (h2 : i < M.length) (he : L[i] = M[i]) : L.take (i + 1) = M.take (i + 1) := by
  rw [List.take_succ_eq_append_getElem h1, List.take_succ_eq_append_getElem h2, h, he]
theorem ref_under_ok (L M : List (List Nat)) (hL : L.length < 2 ^ 62) (s : St) : (lim prog).call f_touchstoneref06_Under [tx L, tx M] s = some (.b (undP L M), s) := by
  refine fn_W p_touchstoneref06_Under rfl rfl ?_
  simp only [c_touchstoneref06_Under, W_seq, W_reg, W_cond, W_blk, W_skip, W_exit, W_ret, W_regD, WO_nil, WO_cons, WO_guard2, wantV_b, bq_tt, bq_ft, bq_tf, bq_ff, Bool.not_true, Bool.not_false, WD_nil, WD_cons, WD_guard2, WS_some, WS_none, KS_n, KS_x, KS_r, KB_n, KB_x, KB_r, KN_ap, KO_ap, KD_ap, KC_nil, KF_n, KF_r, KG_n, KG_r, KL_n, KL_x, KL_r, CP_true, CP_false, evOp, evX, X.ev, optX, put_some, put_none, get_set2, sel_t, sel_f, Nat.reduceBEq, Nat.reduceAdd, Nat.reduceLT, Nat.reduceLeDiff, Nat.reduceEqDiff, reduceIte, if_true, if_false, bi_add, bi_sub, bi_mul, bi_eql, bi_neq, bi_lss, bi_leq, bi_gtr, bi_geq, bs_eql, bs_neq, bs_lss, Am.unOp, ret1, pubL, pub, pubA, initT, wkZ, wk, wants, resOf, tupOf, quiet, AOp.cls, Nat.beq_eq, Bool.or_eq_true, decide_true, decide_false, beq_self_eq_true, Bool.true_or, Bool.or_true, true_and, and_true, lenA, eqv, eqB, eqP, scal, new_box_self, List.getElem?_cons_zero, List.getElem?_cons_succ, key_ii, key_ss, findM, updM, esc_i, esc_s, esc_b, Int.reduceEq, ret1, new_nb, new_set, reduceCtorEq, Bool.xor_true, Bool.xor_false, Bool.false_eq_true, List.all_cons, List.all_nil, noTok, Bool.and_self, Bool.and_true, Bool.true_and, List.length_map, ofNat_len]
  refine CP_dec (fun h => KR_some (Over.enter s) rfl ?_) (fun h => ?_)
  · have : ¬ M.take L.length = L := fun hh => by have := und_len hh; omega
    simp [tupOf, wkZ, wk, undP, this]
  have hl : L.length ≤ M.length := by omega
  refine W_loop (fun n e s1 => s1 = s.enter ∧ e.get 0 = tx L ∧ e.get 1 = tx M ∧ ∃ i : Nat, i + n = L.length ∧ e.get 5 = .i .i64 i ∧ L.take i = M.take i) ?_ L.length _ _ ?_
  · rintro n e s1 ⟨rfl, h0, h1, i, hi, h5, hp⟩
    simp only [W_seq, W_reg, W_cond, W_blk, W_skip, W_exit, W_ret, W_regD, WO_nil, WO_cons, WO_guard2, wantV_b, bq_tt, bq_ft, bq_tf, bq_ff, Bool.not_true, Bool.not_false, WD_nil, WD_cons, WD_guard2, WS_some, WS_none, KS_n, KS_x, KS_r, KB_n, KB_x, KB_r, KN_ap, KO_ap, KD_ap, KC_nil, KF_n, KF_r, KG_n, KG_r, KL_n, KL_x, KL_r, CP_true, CP_false, evOp, evX, X.ev, optX, put_some, put_none, get_set2, sel_t, sel_f, Nat.reduceBEq, Nat.reduceAdd, Nat.reduceLT, Nat.reduceLeDiff, Nat.reduceEqDiff, reduceIte, if_true, if_false, bi_add, bi_sub, bi_mul, bi_eql, bi_neq, bi_lss, bi_leq, bi_gtr, bi_geq, bs_eql, bs_neq, bs_lss, Am.unOp, ret1, pubL, pub, pubA, initT, wkZ, wk, wants, resOf, tupOf, quiet, AOp.cls, Nat.beq_eq, Bool.or_eq_true, decide_true, decide_false, beq_self_eq_true, Bool.true_or, Bool.or_true, true_and, and_true, lenA, eqv, eqB, eqP, scal, new_box_self, List.getElem?_cons_zero, List.getElem?_cons_succ, key_ii, key_ss, findM, updM, esc_i, esc_s, esc_b, Int.reduceEq, ret1, new_nb, new_set, reduceCtorEq, Bool.xor_true, Bool.xor_false, Bool.false_eq_true, List.all_cons, List.all_nil, noTok, Bool.and_self, Bool.and_true, Bool.true_and, h0, h1, h5, List.length_map, ofNat_len]
    refine CP_dec (fun hlt => ?_) (fun hge => ?_)
    · have hlt : i < L.length := by omega
      have hlm : i < M.length := by omega
      simp only [W_seq, W_reg, W_cond, W_blk, W_skip, W_exit, W_ret, W_regD, WO_nil, WO_cons, WO_guard2, wantV_b, bq_tt, bq_ft, bq_tf, bq_ff, Bool.not_true, Bool.not_false, WD_nil, WD_cons, WD_guard2, WS_some, WS_none, KS_n, KS_x, KS_r, KB_n, KB_x, KB_r, KN_ap, KO_ap, KD_ap, KC_nil, KF_n, KF_r, KG_n, KG_r, KL_n, KL_x, KL_r, CP_true, CP_false, evOp, evX, X.ev, optX, put_some, put_none, get_set2, sel_t, sel_f, Nat.reduceBEq, Nat.reduceAdd, Nat.reduceLT, Nat.reduceLeDiff, Nat.reduceEqDiff, reduceIte, if_true, if_false, bi_add, bi_sub, bi_mul, bi_eql, bi_neq, bi_lss, bi_leq, bi_gtr, bi_geq, bs_eql, bs_neq, bs_lss, Am.unOp, ret1, pubL, pub, pubA, initT, wkZ, wk, wants, resOf, tupOf, quiet, AOp.cls, Nat.beq_eq, Bool.or_eq_true, decide_true, decide_false, beq_self_eq_true, Bool.true_or, Bool.or_true, true_and, and_true, lenA, eqv, eqB, eqP, scal, new_box_self, List.getElem?_cons_zero, List.getElem?_cons_succ, key_ii, key_ss, findM, updM, esc_i, esc_s, esc_b, Int.reduceEq, ret1, new_nb, new_set, reduceCtorEq, Bool.xor_true, Bool.xor_false, Bool.false_eq_true, List.all_cons, List.all_nil, noTok, Bool.and_self, Bool.and_true, Bool.true_and, h0, h1, h5, List.length_map, ofNat_len, natOf_nat, tx_get hlt, tx_get hlm, cells_s, ldA_1, wrap_succ (show i + 1 < 2 ^ 63 by omega)]
      refine CP_dec (fun hne => KR_some (Over.enter s) rfl ?_) (fun he => ⟨n - 1, by omega, i + 1, by omega, rfl, ?_⟩)
      · have : ¬ M.take L.length = L := fun hh => hne (und_get hh hlt hlm)
        simp [tupOf, wkZ, wk, undP, this]
      · exact take_step hp hlt hlm (by simpa using he)
    · refine KR_some (Over.enter s) rfl ?_
      have hi' : i = L.length := by omega
      subst hi'
      rw [List.take_length] at hp
      simp [tupOf, wkZ, wk, undP, ← hp]
  · simp only [W_seq, W_reg, W_cond, W_blk, W_skip, W_exit, W_ret, W_regD, WO_nil, WO_cons, WO_guard2, wantV_b, bq_tt, bq_ft, bq_tf, bq_ff, Bool.not_true, Bool.not_false, WD_nil, WD_cons, WD_guard2, WS_some, WS_none, KS_n, KS_x, KS_r, KB_n, KB_x, KB_r, KN_ap, KO_ap, KD_ap, KC_nil, KF_n, KF_r, KG_n, KG_r, KL_n, KL_x, KL_r, CP_true, CP_false, evOp, evX, X.ev, optX, put_some, put_none, get_set2, sel_t, sel_f, Nat.reduceBEq, Nat.reduceAdd, Nat.reduceLT, Nat.reduceLeDiff, Nat.reduceEqDiff, reduceIte, if_true, if_false, bi_add, bi_sub, bi_mul, bi_eql, bi_neq, bi_lss, bi_leq, bi_gtr, bi_geq, bs_eql, bs_neq, bs_lss, Am.unOp, ret1, pubL, pub, pubA, initT, wkZ, wk, wants, resOf, tupOf, quiet, AOp.cls, Nat.beq_eq, Bool.or_eq_true, decide_true, decide_false, beq_self_eq_true, Bool.true_or, Bool.or_true, true_and, and_true, lenA, eqv, eqB, eqP, scal, new_box_self, List.getElem?_cons_zero, List.getElem?_cons_succ, key_ii, key_ss, findM, updM, esc_i, esc_s, esc_b, Int.reduceEq, ret1, new_nb, new_set, reduceCtorEq, Bool.xor_true, Bool.xor_false, Bool.false_eq_true, List.all_cons, List.all_nil, noTok, Bool.and_self, Bool.and_true, Bool.true_and]
    exact ⟨0, by omega, rfl, by simp⟩
def sameP (L M : List (List Nat)) : Bool := decide (L = M)
theorem same_und {L M : List (List Nat)} (h : L.length = M.length) : undP L M = sameP L M := by
  unfold undP sameP
  rw [h, List.take_length]
  by_cases hh : L = M
  · subst hh; simp
  · rw [decide_eq_false hh, decide_eq_false fun h => hh h.symm]
theorem cast_eq {a b : Nat} (h : a = b) : ((a : Int) = (b : Int)) = True := by simp [h]
theorem cast_ne {a b : Nat} (h : a ≠ b) : ((a : Int) = (b : Int)) = False := by simp; omega
theorem beq_ft : (false == true) = false := rfl
theorem ref_same_ok (L M : List (List Nat)) (hL : L.length < 2 ^ 62) (s : St) : (lim prog).call f_touchstoneref06_Same [tx L, tx M] s = some (.b (sameP L M), s) := by
  refine fn_W p_touchstoneref06_Same rfl rfl ?_
  by_cases h : L.length = M.length
  · simp only [c_touchstoneref06_Same, W_seq, W_reg, W_cond, W_blk, W_skip, W_exit, W_ret, W_regD, WO_nil, WO_cons, WO_guard2, wantV_b, bq_tt, bq_ft, bq_tf, bq_ff, Bool.not_true, Bool.not_false, WD_nil, WD_cons, WD_guard2, WS_some, WS_none, KS_n, KS_x, KS_r, KB_n, KB_x, KB_r, KN_ap, KO_ap, KD_ap, KC_nil, KF_n, KF_r, KG_n, KG_r, KL_n, KL_x, KL_r, CP_true, CP_false, evOp, evX, X.ev, optX, put_some, put_none, get_set2, sel_t, sel_f, Nat.reduceBEq, Nat.reduceAdd, Nat.reduceLT, Nat.reduceLeDiff, Nat.reduceEqDiff, reduceIte, if_true, if_false, bi_add, bi_sub, bi_mul, bi_eql, bi_neq, bi_lss, bi_leq, bi_gtr, bi_geq, bs_eql, bs_neq, bs_lss, Am.unOp, ret1, pubL, pub, pubA, initT, wkZ, wk, wants, resOf, tupOf, quiet, AOp.cls, Nat.beq_eq, Bool.or_eq_true, decide_true, decide_false, beq_self_eq_true, Bool.true_or, Bool.or_true, true_and, and_true, lenA, eqv, eqB, eqP, scal, new_box_self, List.getElem?_cons_zero, List.getElem?_cons_succ, key_ii, key_ss, findM, updM, esc_i, esc_s, esc_b, Int.reduceEq, ret1, new_nb, new_set, reduceCtorEq, Bool.xor_true, Bool.xor_false, Bool.false_eq_true, List.all_cons, List.all_nil, noTok, Bool.and_self, Bool.and_true, Bool.true_and, List.length_map, ofNat_len, ref_under_ok L M hL, cast_eq h]
    exact KR_some (Over.enter s) rfl (by simp [tupOf, wkZ, wk, same_und h])
  · simp only [c_touchstoneref06_Same, W_seq, W_reg, W_cond, W_blk, W_skip, W_exit, W_ret, W_regD, WO_nil, WO_cons, WO_guard2, wantV_b, bq_tt, bq_ft, bq_tf, bq_ff, Bool.not_true, Bool.not_false, WD_nil, WD_cons, WD_guard2, WS_some, WS_none, KS_n, KS_x, KS_r, KB_n, KB_x, KB_r, KN_ap, KO_ap, KD_ap, KC_nil, KF_n, KF_r, KG_n, KG_r, KL_n, KL_x, KL_r, CP_true, CP_false, evOp, evX, X.ev, optX, put_some, put_none, get_set2, sel_t, sel_f, Nat.reduceBEq, Nat.reduceAdd, Nat.reduceLT, Nat.reduceLeDiff, Nat.reduceEqDiff, reduceIte, if_true, if_false, bi_add, bi_sub, bi_mul, bi_eql, bi_neq, bi_lss, bi_leq, bi_gtr, bi_geq, bs_eql, bs_neq, bs_lss, Am.unOp, ret1, pubL, pub, pubA, initT, wkZ, wk, wants, resOf, tupOf, quiet, AOp.cls, Nat.beq_eq, Bool.or_eq_true, decide_true, decide_false, beq_self_eq_true, Bool.true_or, Bool.or_true, true_and, and_true, lenA, eqv, eqB, eqP, scal, new_box_self, List.getElem?_cons_zero, List.getElem?_cons_succ, key_ii, key_ss, findM, updM, esc_i, esc_s, esc_b, Int.reduceEq, ret1, new_nb, new_set, reduceCtorEq, Bool.xor_true, Bool.xor_false, Bool.false_eq_true, List.all_cons, List.all_nil, noTok, Bool.and_self, Bool.and_true, Bool.true_and, List.length_map, ofNat_len, ref_under_ok L M hL, cast_ne h, beq_ft]
    refine KR_some (Over.enter s) rfl ?_
    have : ¬ L = M := fun hh => h (by rw [hh])
    simp [tupOf, wkZ, wk, sameP, this]
end Go.Proofs.Ytgloinighjdhlaa

/-
  Nodes of trees as plain data.
-/
set_option maxRecDepth 100000
set_option linter.unusedSimpArgs false
set_option linter.constructorNameAsVariable false
namespace Go.Proofs.Ytgloinighjdhlaa
open Go.Proofs.Ytgloinighjdhlaa.Am
inductive ND where
  | mk (k : Nat) (t : List Nat) (ns : List (List Nat)) (ks : List ND)
def ND.kind : ND → Nat | .mk k _ _ _ => k
def ND.text : ND → List Nat | .mk _ t _ _ => t
def ND.names : ND → List (List Nat) | .mk _ _ ns _ => ns
def ND.kids : ND → List ND | .mk _ _ _ ks => ks
mutual
def ND.av : ND → AV
  | .mk k t ns ks => .agg [.i .u8 (k : Nat), .s t, tx ns, .ws false 4 (ND.avs ks)]
def ND.avs : List ND → List AV
  | [] => []
  | n :: l => n.av :: ND.avs l
end
def ND.cells (n : ND) : List AV := [.i .u8 (n.kind : Nat), .s n.text, tx n.names, .ws false 4 (n.kids.map ND.av)]
theorem ND.lt {n k : ND} (h : k ∈ n.kids) : SizeOf.sizeOf k < SizeOf.sizeOf n := by
  cases n with
  | mk a t ns ks =>
    have h : k ∈ ks := h
    have := List.sizeOf_lt_of_mem h
    simp only [ND.mk.sizeOf_spec]
    omega
end Go.Proofs.Ytgloinighjdhlaa

/-
  ftree.Nodes and ftree.depth.
-/
set_option maxRecDepth 100000
set_option linter.unusedSimpArgs false
set_option linter.constructorNameAsVariable false
namespace Go.Proofs.Ytgloinighjdhlaa
open Go.Proofs.Ytgloinighjdhlaa.Am
end Go.Proofs.Ytgloinighjdhlaa

/-
  Bytes and runes in texts; names.
-/
set_option maxRecDepth 100000
set_option linter.unusedSimpArgs false
set_option linter.constructorNameAsVariable false
namespace Go.Proofs.Ytgloinighjdhlaa
open Go.Proofs.Ytgloinighjdhlaa.Am
/-! ### A byte in a text -/
theorem nbeq_ne {a c : Nat} (h : ¬ a = c) : Nat.beq a c = false := Bool.eq_false_iff.2 (by rw [Ne, Nat.beq_eq]; exact h)
theorem idxB_neg {c : Nat} : ∀ {l : List Nat} {n : Nat}, idxB c n l < 0 ↔ c ∉ l
  | [], n => by simp [idxB]
  | a :: l, n => by
    simp only [idxB]
    by_cases h : a = c
    · subst h
      simp [Nat.beq_eq]
    · have hb : Nat.beq a c = false := nbeq_ne h
      rw [hb, cond_false, idxB_neg]
      simp; omega
theorem idxB_miss {c : Nat} : ∀ {l : List Nat} {n : Nat}, c ∉ l → idxB c n l = -1
  | [], n, _ => rfl
  | a :: l, n, h => by
    simp only [List.mem_cons, not_or] at h
    have hb : Nat.beq a c = false := nbeq_ne (Ne.symm h.1)
    simp only [idxB]
    rw [hb, cond_false, idxB_miss h.2]
theorem ext0 (s : St) (l : List Nat) (c : Nat) (hc : c < 256) : extA s 0 [.s l, .i .u8 (c : Int)] = some (.i .i64 (idxB c 0 l), s) := by
  have h : ((IntKind.u8 = IntKind.u8) ∧ (0 : Int) ≤ (c : Int) ∧ (c : Int) < 256) := ⟨rfl, by omega, by omega⟩
  show (if _ then _ else _) = _
  rw [if_pos h]
  simp
theorem indexByteL_ok (l : List Nat) (c : Nat) (hc : c < 256) (s : St) : (lim prog).call f_internal_stringslite_IndexByte [.s l, .i .u8 (c : Int)] s = some (.i .i64 (idxB c 0 l), s) := by
  refine fn_W p_internal_stringslite_IndexByte rfl rfl ?_
  simp only [c_internal_stringslite_IndexByte, go_sem, W_cond, WO_guard2, WE_guard2, WQ_guard2, W_regD, KB_n, KB_x, Nat.reduceBEq, Nat.reduceAdd, Nat.reduceLT, Nat.reduceLeDiff, Nat.reduceEqDiff, reduceIte, Int.reduceEq, reduceCtorEq, ext0 _ l c hc]
  exact KR_some (Over.enter s) rfl rfl
theorem indexByte_ok (l : List Nat) (c : Nat) (hc : c < 256) (s : St) : (lim prog).call f_strings_IndexByte [.s l, .i .u8 (c : Int)] s = some (.i .i64 (idxB c 0 l), s) := by
  refine fn_W p_strings_IndexByte rfl rfl ?_
  simp only [c_strings_IndexByte, go_sem, W_cond, WO_guard2, WE_guard2, WQ_guard2, W_regD, KB_n, KB_x, Nat.reduceBEq, Nat.reduceAdd, Nat.reduceLT, Nat.reduceLeDiff, Nat.reduceEqDiff, reduceIte, Int.reduceEq, reduceCtorEq, indexByteL_ok l c hc]
  exact KR_some (Over.enter s) rfl rfl
theorem natOf0 : natOf (.i .i64 0) = some 0 := rfl
end Go.Proofs.Ytgloinighjdhlaa

/-
  Runes in "/\0\n".
-/
set_option maxRecDepth 100000
set_option linter.unusedSimpArgs false
set_option linter.constructorNameAsVariable false
namespace Go.Proofs.Ytgloinighjdhlaa
open Go.Proofs.Ytgloinighjdhlaa.Am
theorem u8N {n : Nat} (h : n < 256) : (UInt8.ofNat n).toNat = n := by simp [UInt8.toNat_ofNat']; omega
theorem encN_high {r : Int} (h0 : 128 ≤ r) (hv : Utf8.valid r = true) : (∃ a b, encN r = [a, b] ∧ 128 ≤ b ∧ b < 256) ∨ (∃ a b c, encN r = [a, b, c] ∧ 128 ≤ c ∧ c < 256) ∨ ∃ a b c d, encN r = [a, b, c, d] := by
  have hr : r ≤ 1114111 := by
    simp only [Utf8.valid, Bool.or_eq_true, Bool.and_eq_true, decide_eq_true_eq] at hv
    omega
  obtain ⟨n, rfl⟩ : ∃ n : Nat, r = n := ⟨r.toNat, by omega⟩
  simp only [encN, Utf8.encode, hv, if_true, Int.toNat_natCast]
  by_cases h1 : n < 128
  · omega
  rw [if_neg h1]
  by_cases h2 : n < 2048
  · rw [if_pos h2]
    exact .inl ⟨_, _, rfl, by show 128 ≤ (UInt8.ofNat _).toNat; rw [u8N (by omega)]; omega, by show (UInt8.ofNat _).toNat < 256; rw [u8N (by omega)]; omega⟩
  rw [if_neg h2]
  by_cases h3 : n < 65536
  · rw [if_pos h3]
    exact .inr (.inl ⟨_, _, _, rfl, by show 128 ≤ (UInt8.ofNat _).toNat; rw [u8N (by omega)]; omega, by show (UInt8.ofNat _).toNat < 256; rw [u8N (by omega)]; omega⟩)
  rw [if_neg h3]
  exact .inr (.inr ⟨_, _, _, _, rfl⟩)
theorem validRune_ok (r : Int) (s : St) : (lim prog).call f_unicode_utf8_ValidRune [.i .i32 r] s = some (.b (Utf8.valid r), s) := by
  refine fn_W p_unicode_utf8_ValidRune rfl rfl ?_
  simp only [c_unicode_utf8_ValidRune, go_sem, W_cond, WO_guard2, WE_guard2, WQ_guard2, W_regD, KB_n, KB_x, Nat.reduceBEq, Nat.reduceAdd, Nat.reduceLT, Nat.reduceLeDiff, Nat.reduceEqDiff, reduceIte, Int.reduceEq, reduceCtorEq]
  by_cases h0 : 0 ≤ r
  · by_cases h1 : r < 55296
    · simp only [go_sem, W_cond, WO_guard2, WE_guard2, WQ_guard2, W_regD, KB_n, KB_x, Nat.reduceBEq, Nat.reduceAdd, Nat.reduceLT, Nat.reduceLeDiff, Nat.reduceEqDiff, reduceIte, Int.reduceEq, reduceCtorEq, h0, h1]
      exact KR_some (Over.enter s) rfl (by simp [tupOf, wkZ, wk, Utf8.valid, h0, h1])
    · by_cases h2 : 57343 < r
      · by_cases h3 : r ≤ 1114111
        · simp only [go_sem, W_cond, WO_guard2, WE_guard2, WQ_guard2, W_regD, KB_n, KB_x, Nat.reduceBEq, Nat.reduceAdd, Nat.reduceLT, Nat.reduceLeDiff, Nat.reduceEqDiff, reduceIte, Int.reduceEq, reduceCtorEq, h0, h1, h2, h3]
          refine KR_some (Over.enter s) rfl ?_
          have h4 : 57344 ≤ r := by omega
          simp [tupOf, wkZ, wk, Utf8.valid, h3, h4]
        · simp only [go_sem, W_cond, WO_guard2, WE_guard2, WQ_guard2, W_regD, KB_n, KB_x, Nat.reduceBEq, Nat.reduceAdd, Nat.reduceLT, Nat.reduceLeDiff, Nat.reduceEqDiff, reduceIte, Int.reduceEq, reduceCtorEq, h0, h1, h2, h3]
          refine KR_some (Over.enter s) rfl ?_
          simp [tupOf, wkZ, wk, Utf8.valid, h1, h3]
      · simp only [go_sem, W_cond, WO_guard2, WE_guard2, WQ_guard2, W_regD, KB_n, KB_x, Nat.reduceBEq, Nat.reduceAdd, Nat.reduceLT, Nat.reduceLeDiff, Nat.reduceEqDiff, reduceIte, Int.reduceEq, reduceCtorEq, h0, h1, h2]
        refine KR_some (Over.enter s) rfl ?_
        have h4 : ¬ 57344 ≤ r := by omega
        simp [tupOf, wkZ, wk, Utf8.valid, h1, h4]
  · have h2 : ¬ 57343 < r := by omega
    simp only [go_sem, W_cond, WO_guard2, WE_guard2, WQ_guard2, W_regD, KB_n, KB_x, Nat.reduceBEq, Nat.reduceAdd, Nat.reduceLT, Nat.reduceLeDiff, Nat.reduceEqDiff, reduceIte, Int.reduceEq, reduceCtorEq, h0, h2]
    refine KR_some (Over.enter s) rfl ?_
    have h4 : ¬ 57344 ≤ r := by omega
    simp [tupOf, wkZ, wk, Utf8.valid, h0, h4]
abbrev K3 : List Nat := [47, 0, 10]
def runeP (r : Int) : Int := if r < 128 then idxB r.toNat 0 K3 else -1
theorem natOf_i64 (i : Nat) : natOf (.i .i64 (i : Int)) = some i := natOf_nat _ i
theorem natOf1 : natOf (.i .i64 1) = some 1 := rfl
theorem natOf2 : natOf (.i .i64 2) = some 2 := rfl
theorem w1 : IntKind.i64.wrap (2 - 1) = 1 := rfl
theorem w2 : IntKind.i64.wrap (3 - 1) = 2 := rfl
theorem w3 : IntKind.i64.wrap (4 - 1) = 3 := rfl
theorem w4 : IntKind.i64.wrap (1 + 1) = 2 := rfl
theorem w5 : IntKind.i64.wrap (2 + 1) = 3 := rfl
theorem bnd2 : bounds 3 (some (.i .i64 2)) none = some (2, 3) := rfl
theorem bnd3 : bounds 3 (some (.i .i64 3)) none = some (3, 3) := rfl
theorem indexRune_ok (r : Int) (h0 : 0 ≤ r) (h1 : r ≤ 2147483647) (s : St) : (lim prog).call f_strings_IndexRune [.s K3, .i .i32 r] s = some (.i .i64 (runeP r), s) := by
  refine fn_W p_strings_IndexRune rfl rfl ?_
  have h0' : ((0 : Int) ≤ r) = True := by simp [h0]
  by_cases hr : r < 128
  · have hr' : (r < 128) = True := by simp [hr]
    obtain ⟨n, rfl⟩ : ∃ n : Nat, r = n := ⟨r.toNat, by omega⟩
    have hw : IntKind.u8.wrap (n : Int) = (n : Int) := by
      have e : (n : Int) % 2 ^ 8 = n := by omega
      simp only [IntKind.wrap, IntKind.signed, IntKind.bits, e]
      rfl
    simp only [c_strings_IndexRune, go_sem, W_cond, WO_guard2, WE_guard2, WQ_guard2, W_regD, KB_n, KB_x, Nat.reduceBEq, Nat.reduceAdd, Nat.reduceLT, Nat.reduceLeDiff, Nat.reduceEqDiff, reduceIte, Int.reduceEq, reduceCtorEq, h0', hr', hw, indexByte_ok K3 n (by omega)]
    exact KR_some (Over.enter s) rfl (by simp [tupOf, wkZ, wk, runeP, hr])
  · have hr' : (r < 128) = False := by simp [hr]
    have hP : runeP r = -1 := by unfold runeP; rw [if_neg hr]
    by_cases he : r = 65533
    · have he' : (r = 65533) = True := by simp [he]
      simp only [c_strings_IndexRune, go_sem, W_cond, WO_guard2, WE_guard2, WQ_guard2, W_regD, KB_n, KB_x, Nat.reduceBEq, Nat.reduceAdd, Nat.reduceLT, Nat.reduceLeDiff, Nat.reduceEqDiff, reduceIte, Int.reduceEq, reduceCtorEq, h0', hr', he']
      refine W_loop (fun n e q => ∃ p : Nat, p + n = 3 ∧ q = s.enter.new (.siter K3 p) ∧ e.get 175 = .p s.enter.nb 0) ?_ 3 _ _ ?_
      · rintro n e q ⟨p, hp, rfl, g⟩
        have hs : ∀ p', (s.enter.new (.siter K3 p)).setBox s.enter.nb (.siter K3 p') = s.enter.new (.siter K3 p') := fun p' => new_set _ _ _
        have h47 : ((Int.ofNat 47 : Int) = 65533) = False := by simp
        have h00 : ((Int.ofNat 0 : Int) = 65533) = False := by simp
        have h10 : ((Int.ofNat 10 : Int) = 65533) = False := by simp
        have l3 : ([47, 0, 10] : List Nat)[3]? = none := rfl
        have a1 : (47 < 128) = True := by simp
        have a2 : (0 < 128) = True := by simp
        have a3 : (10 < 128) = True := by simp
        have hov := ((Over.enter s).new (.siter K3 3))
        have : p = 0 ∨ p = 1 ∨ p = 2 ∨ p = 3 := by omega
        rcases this with rfl | rfl | rfl | rfl
        · simp only [go_sem, W_cond, WO_guard2, WE_guard2, WQ_guard2, W_regD, KB_n, KB_x, Nat.reduceBEq, Nat.reduceAdd, Nat.reduceLT, Nat.reduceLeDiff, Nat.reduceEqDiff, reduceIte, Int.reduceEq, reduceCtorEq, g, a1, a2, a3, h47, h00, h10, hs]
          exact ⟨n - 1, by omega, 1, by omega, rfl⟩
        · simp only [go_sem, W_cond, WO_guard2, WE_guard2, WQ_guard2, W_regD, KB_n, KB_x, Nat.reduceBEq, Nat.reduceAdd, Nat.reduceLT, Nat.reduceLeDiff, Nat.reduceEqDiff, reduceIte, Int.reduceEq, reduceCtorEq, g, a1, a2, a3, h47, h00, h10, hs]
          exact ⟨n - 1, by omega, 2, by omega, rfl⟩
        · simp only [go_sem, W_cond, WO_guard2, WE_guard2, WQ_guard2, W_regD, KB_n, KB_x, Nat.reduceBEq, Nat.reduceAdd, Nat.reduceLT, Nat.reduceLeDiff, Nat.reduceEqDiff, reduceIte, Int.reduceEq, reduceCtorEq, g, a1, a2, a3, h47, h00, h10, hs]
          exact ⟨n - 1, by omega, 3, by omega, rfl⟩
        · simp only [go_sem, W_cond, WO_guard2, WE_guard2, WQ_guard2, W_regD, KB_n, KB_x, Nat.reduceBEq, Nat.reduceAdd, Nat.reduceLT, Nat.reduceLeDiff, Nat.reduceEqDiff, reduceIte, Int.reduceEq, reduceCtorEq, g, l3]
          exact KR_some hov rfl (by rw [hP]; rfl)
      · simp only [go_sem, W_cond, WO_guard2, WE_guard2, WQ_guard2, W_regD, KB_n, KB_x, Nat.reduceBEq, Nat.reduceAdd, Nat.reduceLT, Nat.reduceLeDiff, Nat.reduceEqDiff, reduceIte, Int.reduceEq, reduceCtorEq]
        exact ⟨0, by omega, rfl⟩
    · have he' : (r = 65533) = False := by simp [he]
      have hv := validRune_ok r
      cases hvr : Utf8.valid r with
      | false =>
        rw [hvr] at hv
        simp only [c_strings_IndexRune, go_sem, W_cond, WO_guard2, WE_guard2, WQ_guard2, W_regD, KB_n, KB_x, Nat.reduceBEq, Nat.reduceAdd, Nat.reduceLT, Nat.reduceLeDiff, Nat.reduceEqDiff, reduceIte, Int.reduceEq, reduceCtorEq, h0', hr', he', hv]
        exact KR_some (Over.enter s) rfl (by rw [hP]; rfl)
      | true =>
        rw [hvr] at hv
        have hl3 : List.length K3 = 3 := rfl
        rcases encN_high (show 128 ≤ r by omega) hvr with ⟨a, b, h2, hb1, hb2⟩ | ⟨a, b, c, h2, hb1, hb2⟩ | ⟨a, b, c, d, h2⟩
        · simp only [c_strings_IndexRune, go_sem, W_cond, WO_guard2, WE_guard2, WQ_guard2, W_regD, KB_n, KB_x, Nat.reduceBEq, Nat.reduceAdd, Nat.reduceLT, Nat.reduceLeDiff, Nat.reduceEqDiff, reduceIte, Int.reduceEq, reduceCtorEq, h0', hr', he', hv, h2]
          refine W_loop (fun n e q => q = s.enter ∧ e.get 0 = .s K3 ∧ e.get 7 = .s [a, b] ∧ e.get 8 = .i .i64 1 ∧ e.get 9 = .i .i64 1) ?_ 0 _ _ ?_
          · rintro n e q ⟨rfl, g0, g7, g8, g9⟩
            have c1 : ((1 : Int) < 3) = True := by simp
            have c2 : ((0 : Int) ≠ (b : Int)) = True := by simp; omega
            have hix := indexByte_ok [10] b hb2 s.enter
            have hmiss : idxB b 0 [10] = -1 := idxB_miss (by simp; omega)
            rw [hmiss] at hix
            have hd : ((([47, 0, 10] : List Nat).drop 2).take (3 - 2)) = [10] := rfl
            have hm1 : ((-1 : Int) < 0) = True := by simp
            simp only [go_sem, W_cond, WO_guard2, WE_guard2, WQ_guard2, W_regD, KB_n, KB_x, Nat.reduceBEq, Nat.reduceAdd, Nat.reduceLT, Nat.reduceLeDiff, Nat.reduceEqDiff, reduceIte, Int.reduceEq, reduceCtorEq, g0, g7, g8, g9, List.length_cons, List.length_nil, ofNat_len, Int.cast_ofNat_Int, c1, natOf1, c2, w4, bnd2, hd, hix, hm1]
            exact KR_some (Over.enter s) rfl (by rw [hP]; rfl)
          · simp only [go_sem, W_cond, WO_guard2, WE_guard2, WQ_guard2, W_regD, KB_n, KB_x, Nat.reduceBEq, Nat.reduceAdd, Nat.reduceLT, Nat.reduceLeDiff, Nat.reduceEqDiff, reduceIte, Int.reduceEq, reduceCtorEq, w1, List.length_cons, List.length_nil, ofNat_len, Int.cast_ofNat_Int, and_self]
        · simp only [c_strings_IndexRune, go_sem, W_cond, WO_guard2, WE_guard2, WQ_guard2, W_regD, KB_n, KB_x, Nat.reduceBEq, Nat.reduceAdd, Nat.reduceLT, Nat.reduceLeDiff, Nat.reduceEqDiff, reduceIte, Int.reduceEq, reduceCtorEq, h0', hr', he', hv, h2]
          refine W_loop (fun n e q => q = s.enter ∧ e.get 0 = .s K3 ∧ e.get 7 = .s [a, b, c] ∧ e.get 8 = .i .i64 2 ∧ e.get 9 = .i .i64 2) ?_ 0 _ _ ?_
          · rintro n e q ⟨rfl, g0, g7, g8, g9⟩
            have c1 : ((2 : Int) < 3) = True := by simp
            have c2 : ((10 : Int) ≠ (c : Int)) = True := by simp; omega
            have hix := indexByte_ok [] c hb2 s.enter
            have hmiss : idxB c 0 [] = -1 := rfl
            rw [hmiss] at hix
            have hd : ((([47, 0, 10] : List Nat).drop 3).take (3 - 3)) = [] := rfl
            have hm1 : ((-1 : Int) < 0) = True := by simp
            simp only [go_sem, W_cond, WO_guard2, WE_guard2, WQ_guard2, W_regD, KB_n, KB_x, Nat.reduceBEq, Nat.reduceAdd, Nat.reduceLT, Nat.reduceLeDiff, Nat.reduceEqDiff, reduceIte, Int.reduceEq, reduceCtorEq, g0, g7, g8, g9, List.length_cons, List.length_nil, ofNat_len, Int.cast_ofNat_Int, c1, natOf2, c2, w5, bnd3, hd, hix, hm1]
            exact KR_some (Over.enter s) rfl (by rw [hP]; rfl)
          · simp only [go_sem, W_cond, WO_guard2, WE_guard2, WQ_guard2, W_regD, KB_n, KB_x, Nat.reduceBEq, Nat.reduceAdd, Nat.reduceLT, Nat.reduceLeDiff, Nat.reduceEqDiff, reduceIte, Int.reduceEq, reduceCtorEq, w2, List.length_cons, List.length_nil, ofNat_len, Int.cast_ofNat_Int, and_self]
        · simp only [c_strings_IndexRune, go_sem, W_cond, WO_guard2, WE_guard2, WQ_guard2, W_regD, KB_n, KB_x, Nat.reduceBEq, Nat.reduceAdd, Nat.reduceLT, Nat.reduceLeDiff, Nat.reduceEqDiff, reduceIte, Int.reduceEq, reduceCtorEq, h0', hr', he', hv, h2]
          refine W_loop (fun n e q => q = s.enter ∧ e.get 0 = .s K3 ∧ e.get 9 = .i .i64 3) ?_ 0 _ _ ?_
          · rintro n e q ⟨rfl, g0, g9⟩
            have c1 : ((3 : Int) < 3) = False := by simp
            simp only [go_sem, W_cond, WO_guard2, WE_guard2, WQ_guard2, W_regD, KB_n, KB_x, Nat.reduceBEq, Nat.reduceAdd, Nat.reduceLT, Nat.reduceLeDiff, Nat.reduceEqDiff, reduceIte, Int.reduceEq, reduceCtorEq, g0, g9, List.length_cons, List.length_nil, ofNat_len, Int.cast_ofNat_Int, c1]
            exact KR_some (Over.enter s) rfl (by rw [hP]; rfl)
          · simp only [go_sem, W_cond, WO_guard2, WE_guard2, WQ_guard2, W_regD, KB_n, KB_x, Nat.reduceBEq, Nat.reduceAdd, Nat.reduceLT, Nat.reduceLeDiff, Nat.reduceEqDiff, reduceIte, Int.reduceEq, reduceCtorEq, w3, List.length_cons, List.length_nil, ofNat_len, Int.cast_ofNat_Int, and_self]
end Go.Proofs.Ytgloinighjdhlaa

/-
  Sets of bytes; names.
-/
set_option maxRecDepth 100000
set_option linter.unusedSimpArgs false
set_option linter.constructorNameAsVariable false
namespace Go.Proofs.Ytgloinighjdhlaa
open Go.Proofs.Ytgloinighjdhlaa.Am
abbrev bs (B : List Bool) : List AV := B.map AV.b
section
variable {s : St} {id T n : Nat}
theorem bs_pubL (s : St) : ∀ B : List Bool, pubL s (bs B) = some (bs B, s)
  | [] => rfl
  | b :: B => by
    simp only [bs, List.map_cons, pubL, pubC_b]
    rw [bs_pubL s B]
theorem bs_frzL (s : St) : ∀ B : List Bool, frzL s (bs B) = some (bs B, s)
  | [] => rfl
  | b :: B => by
    simp only [bs, List.map_cons, frzL, frz, pubC_b]
    rw [bs_frzL s B]
theorem bs_ones : ∀ B : List Bool, ones (bs B) = true
  | [] => rfl
  | b :: B => by
    simp only [bs, List.map_cons, ones]
    exact bs_ones B
theorem bs_refs : ∀ B : List Bool, AV.refs.go (bs B) = false
  | [] => rfl
  | b :: B => by
    simp only [bs, List.map_cons, AV.refs.go, AV.refs, Bool.false_or]
    exact bs_refs B
theorem bs_wk : ∀ (n : Nat) (B : List Bool), wkZ (List.replicate n .id) (bs B) = bs B
  | 0, B => by simp [wkZ]
  | n + 1, [] => by simp [wkZ]
  | n + 1, b :: B => by
    have := bs_wk n B
    simp only [bs, List.map_cons, List.replicate_succ, wkZ, wk] at this ⊢
    rw [this]
theorem bs_ld {B : List Bool} (h : s.box? id = some (.cells T (bs B))) (hn : B.length = n) : ldA s true n (.p id 0) = some (.agg (bs B)) := by
  have : cut (bs B) 0 n = some (bs B) := by
    have e : (bs B).take n = bs B := List.take_of_length_le (by simp; omega)
    have e2 : (bs B).length = n := by simpa using hn
    simp only [cut, List.drop_zero, e, e2, if_true]
  simp only [ldA, St.cells?, h, this, scal]
theorem bs_ld1 {B : List Bool} {i : Nat} {b : Bool} (h : s.box? id = some (.cells T (bs B))) (hi : B[i]? = some b) : ldA s false 1 (.p id i) = some (.b b) := by
  exact ld_box h (by simp [hi])
theorem bs_st {B B' : List Bool} (h : s.box? id = some (.cells T (bs B'))) (hn : B.length = n) (hn' : B'.length = n) : stA s n (.p id 0) (.agg (bs B)) = some (s.setBox id (.cells T (bs B))) := by
  have h1 : (AV.agg (bs B)).cells = bs B := rfl
  have h2 : (bs B).length = n := by simpa using hn
  have h3 : over (bs B') 0 (bs B) = some (bs B) := by
    unfold over
    rw [if_pos (by simp; omega)]
    simp [hn, hn']
  simp only [stA, h, h1, h2, bs_ones, and_self, if_true, h3, esc]
  have h4 : (AV.agg (bs B)).refs = false := by simp only [AV.refs]; exact bs_refs B
  rw [h4]
  rfl
theorem bs_st1 {B : List Bool} {i : Nat} (h : s.box? id = some (.cells T (bs B))) (hi : i < B.length) : stA s 1 (.p id i) (.b true) = some (s.setBox id (.cells T (bs (B.set i true)))) := by
  rw [st_box h rfl rfl (by simpa using hi)]
  have : (bs B).set i (.b true) = bs (B.set i true) := by simp [bs, List.map_set]
  rw [this]
  rfl
end
def F256 : List Bool := List.replicate 256 false
abbrev Z256 : List AV := bs F256
def B3 : List Bool := ((F256.set 47 true).set 0 true).set 10 true
theorem len0 : F256.length = 256 := by simp [F256]
theorem len1' : (F256.set 47 true).length = 256 := by simp [F256]
theorem len2' : ((F256.set 47 true).set 0 true).length = 256 := by simp [F256]
theorem len3' : B3.length = 256 := by simp [B3, F256]
theorem b3_all : ((List.range 256).all fun c => B3[c]? == some (decide (c ∈ K3))) = true := by kernel_rfl
theorem b3_get {c : Nat} (h : c < 256) : B3[c]? = some (decide (c ∈ K3)) := by
  have := List.all_eq_true.1 b3_all c (by simpa using h)
  simpa using this
theorem mk_body : c_strings_makeASCIISet.body =
  (.seq (.reg [⟨(some 2), .alloc 130 Z256, none⟩,
    ⟨(some 3), .mv (.c (.b false)), none⟩])
  (.seq (.seq (.reg [⟨(some 4), .mv (.c (.i .i64 0)), none⟩])
  (.blk 0 (.loop (.seq (.seq (.reg [⟨(some 6), .mv (.t 4), none⟩,
      ⟨(some 7), .mv (.t 0), none⟩,
      ⟨(some 8), .len 0 (.t 7), none⟩,
      ⟨(some 9), .bin .lss (.t 6) (.t 8), none⟩])
    (.cond (.t 9)
     .skip
     (.exit 0)))
    (.seq (.blk 1 (.seq (.reg [⟨(some 12), .mv (.t 0), none⟩,
       ⟨(some 13), .mv (.t 4), none⟩,
       ⟨(some 14), .ixS (.t 12) (.t 13), none⟩,
       ⟨(some 5), .mv (.t 14), none⟩])
     (.seq (.seq (.reg [⟨(some 15), .mv (.t 5), none⟩,
       ⟨(some 16), .bin .geq (.t 15) (.c (.i .u8 128)), none⟩])
     (.cond (.t 16)
      (.seq (.reg [⟨(some 17), .ld true 256 (.t 2), none⟩,
        ⟨none, .st 256 (.t 2) (.t 17), none⟩,
        ⟨(some 3), .mv (.c (.b false)), none⟩])
      .ret)
      .skip))
     (.reg [⟨(some 18), .mv (.t 5), none⟩,
       ⟨(some 19), .iaA 256 1 (.t 2) (.t 18), none⟩,
       ⟨none, .st 1 (.t 19) (.c (.b true)), none⟩]))))
    (.reg [⟨(some 10), .mv (.t 4), none⟩,
      ⟨(some 11), .bin .add (.t 10) (.c (.i .i64 1)), none⟩,
      ⟨(some 4), .mv (.t 11), none⟩]))))))
  (.seq (.reg [⟨(some 20), .ld true 256 (.t 2), none⟩,
    ⟨none, .st 256 (.t 2) (.t 20), none⟩,
    ⟨(some 3), .mv (.c (.b true)), none⟩])
  .ret))) := by rfl
theorem ia_body : c_strings_IndexAny.body =
  (.seq (.reg [⟨(some 4), .mv (.c (.i .i64 0)), none⟩])
  (.seq (.seq (.reg [⟨(some 11), .mv (.t 1), none⟩,
    ⟨(some 12), .bin .eql (.t 11) (.c (.s [])), none⟩])
  (.cond (.t 12)
   (.seq (.reg [⟨(some 4), .mv (.c (.i .i64 (-1))), none⟩])
   .ret)
   .skip))
  (.seq (.seq (.reg [⟨(some 13), .mv (.t 1), none⟩,
    ⟨(some 14), .len 0 (.t 13), none⟩,
    ⟨(some 15), .bin .eql (.t 14) (.c (.i .i64 1)), none⟩])
  (.cond (.t 15)
   (.seq (.reg [⟨(some 16), .mv (.t 1), none⟩,
     ⟨(some 17), .ixS (.t 16) (.c (.i .i64 0)), none⟩,
     ⟨(some 18), .cvI .i32 (.t 17), none⟩,
     ⟨(some 5), .mv (.t 18), none⟩])
   (.seq (.seq (.reg [⟨(some 19), .mv (.t 5), none⟩,
     ⟨(some 20), .bin .geq (.t 19) (.c (.i .i32 128)), none⟩])
   (.cond (.t 20)
    (.reg [⟨(some 5), .mv (.c (.i .i32 65533)), none⟩])
    .skip))
   (.seq (.reg [⟨(some 21), .mv (.t 0), none⟩,
     ⟨(some 22), .mv (.t 5), none⟩,
     ⟨(some 23), .call f_strings_IndexRune [(.t 21), (.t 22)], none⟩,
     ⟨(some 4), .mv (.t 23), none⟩])
   .ret)))
   .skip))
  (.seq (.seq (.reg [⟨(some 24), .mv (.t 0), none⟩,
    ⟨(some 25), .len 0 (.t 24), none⟩,
    ⟨(some 26), .call f_strings_shouldUseASCIISet [(.t 25)], none⟩])
  (.cond (.t 26)
   (.seq (.reg [⟨(some 28), .mv (.t 1), none⟩,
     ⟨(some 29), .call f_strings_makeASCIISet [(.t 28)], none⟩,
     ⟨(some 27), .mv (.t 29), none⟩,
     ⟨(some 30), .ext (.t 27) 0, none⟩,
     ⟨(some 31), .ext (.t 27) 1, none⟩,
     ⟨(some 6), .alloc 130 Z256, none⟩,
     ⟨none, .st 256 (.t 6) (.t 30), none⟩,
     ⟨(some 7), .mv (.t 31), none⟩])
   (.seq (.reg [⟨(some 32), .mv (.t 7), none⟩])
   (.cond (.t 32)
    (.seq (.seq (.reg [⟨(some 8), .mv (.c (.i .i64 0)), none⟩])
    (.blk 0 (.loop (.seq (.seq (.reg [⟨(some 33), .mv (.t 8), none⟩,
        ⟨(some 34), .mv (.t 0), none⟩,
        ⟨(some 35), .len 0 (.t 34), none⟩,
        ⟨(some 36), .bin .lss (.t 33) (.t 35), none⟩])
      (.cond (.t 36)
       .skip
       (.exit 0)))
      (.seq (.blk 1 (.seq (.reg [⟨(some 39), .mv (.t 0), none⟩,
         ⟨(some 40), .mv (.t 8), none⟩,
         ⟨(some 41), .ixS (.t 39) (.t 40), none⟩,
         ⟨(some 42), .call f_strings_asciiSet_contains [(.t 6), (.t 41)], none⟩])
       (.cond (.t 42)
        (.seq (.reg [⟨(some 43), .mv (.t 8), none⟩,
          ⟨(some 4), .mv (.t 43), none⟩])
        .ret)
        .skip)))
      (.reg [⟨(some 37), .mv (.t 8), none⟩,
        ⟨(some 38), .bin .add (.t 37) (.c (.i .i64 1)), none⟩,
        ⟨(some 8), .mv (.t 38), none⟩]))))))
    (.seq (.reg [⟨(some 4), .mv (.c (.i .i64 (-1))), none⟩])
    .ret))
    .skip)))
   .skip))
  (.seq (.seq (.reg [⟨(some 44), .mv (.t 0), none⟩,
    ⟨(some 45), .siter (.t 44), none⟩])
  (.blk 2 (.loop (.seq (.reg [⟨(some 46), .snext (.t 45), none⟩,
      ⟨(some 47), .ext (.t 46) 0, none⟩])
    (.seq (.cond (.t 47)
     .skip
     (.exit 2))
    (.blk 3 (.seq (.reg [⟨(some 48), .ext (.t 46) 1, none⟩,
       ⟨(some 49), .ext (.t 46) 2, none⟩,
       ⟨(some 9), .mv (.t 48), none⟩,
       ⟨(some 10), .mv (.t 49), none⟩])
     (.seq (.reg [⟨(some 50), .mv (.t 1), none⟩,
       ⟨(some 51), .mv (.t 10), none⟩,
       ⟨(some 52), .call f_strings_IndexRune [(.t 50), (.t 51)], none⟩,
       ⟨(some 53), .bin .geq (.t 52) (.c (.i .i64 0)), none⟩])
     (.cond (.t 53)
      (.seq (.reg [⟨(some 54), .mv (.t 9), none⟩,
        ⟨(some 4), .mv (.t 54), none⟩])
      .ret)
      .skip)))))))))
  (.seq (.reg [⟨(some 4), .mv (.c (.i .i64 (-1))), none⟩])
  .ret)))))) := by rfl
theorem mk_cout : c_strings_makeASCIISet.cout = [.agg (List.replicate 256 .id), .id] := by rfl
theorem natOf_u8 (n : Nat) : natOf (.i .u8 (n : Int)) = some n := natOf_nat _ n
theorem mk_ok (s : St) (hw : Wf s) : (lim prog).call f_strings_makeASCIISet [.s K3] s = some (.tup [.agg (bs B3), .b true], s) := by
  refine fn_W p_strings_makeASCIISet rfl rfl ?_
  rw [mk_body, mk_cout]
  have hnb : s.enter.nb = s.nb := rfl
  have hwx : ∀ B, Wf (s.enter.new (.cells 130 (bs B))) := fun B => hw.enter.new _
  have hset : ∀ B B', (s.enter.new (.cells 130 (bs B))).setBox s.nb (.cells 130 (bs B')) = s.enter.new (.cells 130 (bs B')) := fun B B' => new_set s.enter _ _
  have hb : ∀ B, (s.enter.new (.cells 130 (bs B))).box? s.nb = some (.cells 130 (bs B)) := fun B => new_box_self s.enter _
  have s1 := bs_st1 (i := 47) (hb F256) (by rw [len0]; decide)
  have s2 := bs_st1 (i := 0) (hb (F256.set 47 true)) (by rw [len1']; decide)
  have s3 := bs_st1 (i := 10) (hb ((F256.set 47 true).set 0 true)) (by rw [len2']; decide)
  rw [hset] at s1 s2 s3
  have la := bs_ld (hb B3) len3'
  have st := bs_st (hb B3) len3' len3'
  rw [hset] at st
  have hres : c_strings_makeASCIISet.res = [(2, some (true, 256)), (3, none)] := rfl
  have hpl := bs_pubL (s.enter.new (.cells 130 (bs B3))) B3
  have hfl := bs_frzL (s.enter.new (.cells 130 (bs B3))) B3
  have ov : Over s (s.enter.new (.cells 130 (bs B3))) := (Over.enter s).new _
  rw [hres]
  simp only [go_sem, W_cond, WO_guard2, WE_guard2, WQ_guard2, W_regD, KB_n, KB_x, Nat.reduceBEq, Nat.reduceAdd, Nat.reduceLT, Nat.reduceLeDiff, Nat.reduceEqDiff, reduceIte, Int.reduceEq, reduceCtorEq, hnb]
  refine W_loop (fun n e q => e.get 0 = .s K3 ∧ e.get 2 = .p s.nb 0 ∧ ∃ p : Nat, p + n = 3 ∧ e.get 4 = .i .i64 p ∧ q = s.enter.new (.cells 130 (bs ((K3.take p).foldl (fun B c => B.set c true) F256)))) ?_ 3 _ _ ?_
  · rintro n e q ⟨g0, g2, p, hp, g4, rfl⟩
    have : p = 0 ∨ p = 1 ∨ p = 2 ∨ p = 3 := by omega
    have hl : List.length K3 = 3 := rfl
    rcases this with rfl | rfl | rfl | rfl
    · have c1 : ((0 : Int) < 3) = True := by simp
      have c2 : ((128 : Int) ≤ 47) = False := by simp
      have hn : natOf (.i .u8 47) = some 47 := rfl
      have hw1 : IntKind.i64.wrap (0 + 1) = 1 := rfl
      have hx : ((K3.take 0).foldl (fun B c => B.set c true) F256) = F256 := rfl
      have hc0 : ((0 : Nat) : Int) = 0 := rfl
      rw [hx]
      simp only [go_sem, W_cond, WO_guard2, WE_guard2, WQ_guard2, W_regD, KB_n, KB_x, Nat.reduceBEq, Nat.reduceAdd, Nat.reduceLT, Nat.reduceLeDiff, Nat.reduceEqDiff, reduceIte, Int.reduceEq, reduceCtorEq, g0, g2, g4, List.length_cons, List.length_nil, ofNat_len, Int.cast_ofNat_Int, hc0, c1, natOf0, c2, hn, Nat.mul_one, Nat.zero_add, s1, hw1]
      exact ⟨n - 1, by omega, 1, by omega, rfl, rfl⟩
    · have c1 : ((1 : Int) < 3) = True := by simp
      have c2 : ((128 : Int) ≤ 0) = False := by simp
      have hn : natOf (.i .u8 0) = some 0 := rfl
      have hx : ((K3.take 1).foldl (fun B c => B.set c true) F256) = F256.set 47 true := rfl
      have hc0 : ((1 : Nat) : Int) = 1 := rfl
      rw [hx]
      simp only [go_sem, W_cond, WO_guard2, WE_guard2, WQ_guard2, W_regD, KB_n, KB_x, Nat.reduceBEq, Nat.reduceAdd, Nat.reduceLT, Nat.reduceLeDiff, Nat.reduceEqDiff, reduceIte, Int.reduceEq, reduceCtorEq, g0, g2, g4, List.length_cons, List.length_nil, ofNat_len, Int.cast_ofNat_Int, hc0, c1, natOf1, c2, hn, Nat.mul_one, Nat.zero_add, s2, w4]
      exact ⟨n - 1, by omega, 2, by omega, rfl, rfl⟩
    · have c1 : ((2 : Int) < 3) = True := by simp
      have c2 : ((128 : Int) ≤ 10) = False := by simp
      have hn : natOf (.i .u8 10) = some 10 := rfl
      have hx : ((K3.take 2).foldl (fun B c => B.set c true) F256) = (F256.set 47 true).set 0 true := rfl
      have hc0 : ((2 : Nat) : Int) = 2 := rfl
      rw [hx]
      simp only [go_sem, W_cond, WO_guard2, WE_guard2, WQ_guard2, W_regD, KB_n, KB_x, Nat.reduceBEq, Nat.reduceAdd, Nat.reduceLT, Nat.reduceLeDiff, Nat.reduceEqDiff, reduceIte, Int.reduceEq, reduceCtorEq, g0, g2, g4, List.length_cons, List.length_nil, ofNat_len, Int.cast_ofNat_Int, hc0, c1, natOf2, c2, hn, Nat.mul_one, Nat.zero_add, s3, w5]
      exact ⟨n - 1, by omega, 3, by omega, rfl, rfl⟩
    · have c1 : ((3 : Int) < 3) = False := by simp
      have hx : ((K3.take 3).foldl (fun B c => B.set c true) F256) = B3 := rfl
      have hc0 : ((3 : Nat) : Int) = 3 := rfl
      rw [hx]
      simp only [go_sem, W_cond, WO_guard2, WE_guard2, WQ_guard2, W_regD, KB_n, KB_x, Nat.reduceBEq, Nat.reduceAdd, Nat.reduceLT, Nat.reduceLeDiff, Nat.reduceEqDiff, reduceIte, Int.reduceEq, reduceCtorEq, g0, g2, g4, List.length_cons, List.length_nil, ofNat_len, Int.cast_ofNat_Int, hc0, c1, la, hpl, st, hfl, frz]
      refine KR_some ov ?_ ?_
      · simp [tupOf, AV.refs, AV.refs.go, bs_refs]
      · simp only [wkZ]
        have e1 : wk (.agg (List.replicate 256 .id)) (.agg (bs B3)) = .agg (bs B3) := by
          rw [wk, bs_wk]
        rw [e1]
        rfl
  · simp only [go_sem, W_cond, WO_guard2, WE_guard2, WQ_guard2, W_regD, KB_n, KB_x, Nat.reduceBEq, Nat.reduceAdd, Nat.reduceLT, Nat.reduceLeDiff, Nat.reduceEqDiff, reduceIte, Int.reduceEq, reduceCtorEq]
    exact ⟨rfl, 0, by omega, rfl, rfl⟩
theorem contains_ok {s : St} {id T : Nat} {B : List Bool} (h : s.box? id = some (.cells T (bs B))) {c : Nat} (hc : c < 256) {b : Bool} (hb : B[c]? = some b) : (lim prog).call f_strings_asciiSet_contains [.p id 0, .i .u8 (c : Int)] s = some (.b b, s) := by
  refine fn_W p_strings_asciiSet_contains rfl rfl ?_
  have hl : ldA s.enter false 1 (.p id c) = some (.b b) := bs_ld1 (s := s.enter) h hb
  have hlt : (c < 256) = True := by simp [hc]
  simp only [c_strings_asciiSet_contains, go_sem, W_cond, WO_guard2, WE_guard2, WQ_guard2, W_regD, KB_n, KB_x, Nat.reduceBEq, Nat.reduceAdd, Nat.reduceLT, Nat.reduceLeDiff, Nat.reduceEqDiff, reduceIte, Int.reduceEq, reduceCtorEq, natOf_u8, hlt, Nat.mul_one, Nat.zero_add, hl]
  exact KR_some (Over.enter s) rfl rfl
end Go.Proofs.Ytgloinighjdhlaa

/-
  Names.
-/
set_option maxRecDepth 100000
set_option linter.unusedSimpArgs false
set_option linter.constructorNameAsVariable false
namespace Go.Proofs.Ytgloinighjdhlaa
open Go.Proofs.Ytgloinighjdhlaa.Am
theorem decode_w (s : ByteArray) (pos : Nat) (h : pos < s.size) (ha : 128 ≤ (s.get! (pos + 0)).toNat) : pos + (Utf8.decode s pos).2 ≤ s.size ∧ ∀ k, k < (Utf8.decode s pos).2 → 128 ≤ (s.get! (pos + k)).toNat := by
  have hn : ¬ (s.get! (pos + 0)).toNat < 128 := by omega
  simp only [Utf8.decode, hn, if_false]
  split
  · rename_i h1
    simp only [Bool.and_eq_true, beq_iff_eq, decide_eq_true_eq] at h1
    split
    · refine ⟨by simp only; omega, fun k hk => ?_⟩
      have : k = 0 ∨ k = 1 := by simp only at hk; omega
      rcases this with rfl | rfl <;> omega
    · refine ⟨by simp only; omega, fun k hk => ?_⟩
      have : k = 0 := by simp only at hk; omega
      subst this; omega
  · split
    · rename_i h1
      simp only [Bool.and_eq_true, beq_iff_eq, decide_eq_true_eq] at h1
      split
      · refine ⟨by simp only; omega, fun k hk => ?_⟩
        have : k = 0 ∨ k = 1 ∨ k = 2 := by simp only at hk; omega
        rcases this with rfl | rfl | rfl <;> omega
      · refine ⟨by simp only; omega, fun k hk => ?_⟩
        have : k = 0 := by simp only at hk; omega
        subst this; omega
    · split
      · rename_i h1
        simp only [Bool.and_eq_true, beq_iff_eq, decide_eq_true_eq] at h1
        split
        · refine ⟨by simp only; omega, fun k hk => ?_⟩
          have : k = 0 ∨ k = 1 ∨ k = 2 ∨ k = 3 := by simp only at hk; omega
          rcases this with rfl | rfl | rfl | rfl <;> omega
        · refine ⟨by simp only; omega, fun k hk => ?_⟩
          have : k = 0 := by simp only at hk; omega
          subst this; omega
      · refine ⟨by simp only; omega, fun k hk => ?_⟩
        have : k = 0 := by simp only at hk; omega
        subst this; omega
theorem bytes_get {l : List Nat} (hl : ∀ n ∈ l, n < 256) {i : Nat} (h : i < l.length) : ((⟨(l.map UInt8.ofNat).toArray⟩ : ByteArray).get! i).toNat = l[i] := by
  have h1 : i < (l.map UInt8.ofNat).toArray.size := by simpa using h
  have : (⟨(l.map UInt8.ofNat).toArray⟩ : ByteArray).get! i = UInt8.ofNat l[i] := by
    show (l.map UInt8.ofNat).toArray[i]! = _
    rw [getElem!_pos _ i h1]
    simp
  rw [this, u8N (hl _ (List.getElem_mem h))]
theorem bytes_size (l : List Nat) : (⟨(l.map UInt8.ofNat).toArray⟩ : ByteArray).size = l.length := by
  show (l.map UInt8.ofNat).toArray.size = _
  simp
theorem decode_l {l : List Nat} (hl : ∀ n ∈ l, n < 256) {pos : Nat} (h : pos < l.length) (hc : 128 ≤ l[pos]) :
    ∃ r w, Utf8.decode ⟨(l.map UInt8.ofNat).toArray⟩ pos = (r, w) ∧ 128 ≤ r ∧ r ≤ 2147483647 ∧ 1 ≤ w ∧ pos + w ≤ l.length ∧ ∀ k (hk : k < l.length), pos ≤ k → k < pos + w → 128 ≤ l[k] := by
  have hs := bytes_size l
  have hg := bytes_get hl h
  have hps : pos < (⟨(l.map UInt8.ofNat).toArray⟩ : ByteArray).size := by rw [hs]; exact h
  have hge := get_at (⟨(l.map UInt8.ofNat).toArray⟩ : ByteArray) pos hps
  have ha : 128 ≤ ((⟨(l.map UInt8.ofNat).toArray⟩ : ByteArray).get! (pos + 0)).toNat := by rw [Nat.add_zero, hg]; exact hc
  have h1 := decode_high (⟨(l.map UInt8.ofNat).toArray⟩ : ByteArray) pos hps (by rw [← hge]; exact ha)
  have h2 := decode_le (⟨(l.map UInt8.ofNat).toArray⟩ : ByteArray) pos
  have h3 := decode_w (⟨(l.map UInt8.ofNat).toArray⟩ : ByteArray) pos hps ha
  rw [hs] at h3
  obtain ⟨⟨r, w⟩, hrw⟩ : ∃ x, Utf8.decode (⟨(l.map UInt8.ofNat).toArray⟩ : ByteArray) pos = x := ⟨_, rfl⟩
  rw [hrw] at h1 h2 h3
  simp only at h1 h2 h3
  refine ⟨r, w, hrw, h1.1, h2, h1.2, h3.1, fun k hk h4 h5 => ?_⟩
  have h6 := h3.2 (k - pos) (by omega)
  rw [show pos + (k - pos) = k by omega, bytes_get hl hk] at h6
  exact h6
def anyK (l : List Nat) : Bool := l.any fun c => decide (c ∈ K3)
theorem runeP_neg {r : Int} (h : 128 ≤ r) : runeP r = -1 := by unfold runeP; rw [if_neg (by omega)]
theorem runeP_byte (c : Nat) (h : c < 128) : (0 ≤ runeP (c : Int)) ↔ c ∈ K3 := by
  unfold runeP
  rw [if_pos (by omega), Int.toNat_natCast]
  have := idxB_neg (c := c) (l := K3) (n := 0)
  constructor
  · intro h1
    by_cases h2 : c ∈ K3
    · exact h2
    · exact absurd (this.2 h2) (by omega)
  · intro h1
    by_cases h2 : idxB c 0 K3 < 0
    · exact absurd h1 (this.1 h2)
    · omega
theorem anyK_of {l : List Nat} {i : Nat} (h : i < l.length) (hm : l[i] ∈ K3) : anyK l = true := by
  unfold anyK
  rw [List.any_eq_true]
  exact ⟨_, List.getElem_mem h, by simpa using hm⟩
theorem anyK_false {l : List Nat} (h : ∀ i (hi : i < l.length), l[i] ∉ K3) : anyK l = false := by
  unfold anyK
  rw [List.any_eq_false]
  intro x hx
  obtain ⟨i, hi, rfl⟩ := List.mem_iff_getElem.1 hx
  simpa using h i hi
theorem shouldUse_ok (n : Int) (s : St) : (lim prog).call f_strings_shouldUseASCIISet [.i .i64 n] s = some (.b (decide (8 < n)), s) := by
  refine fn_W p_strings_shouldUseASCIISet rfl rfl ?_
  simp only [c_strings_shouldUseASCIISet, go_sem, W_cond, WO_guard2, WE_guard2, WQ_guard2, W_regD, KB_n, KB_x, Nat.reduceBEq, Nat.reduceAdd, Nat.reduceLT, Nat.reduceLeDiff, Nat.reduceEqDiff, reduceIte, Int.reduceEq, reduceCtorEq]
  exact KR_some (Over.enter s) rfl rfl
def IAP (l : List Nat) (s : St) (r : AV) (s' : St) : Prop := s' = s ∧ ∃ z : Int, r = .i .i64 z ∧ (decide (0 ≤ z)) = anyK l
theorem KH_i {s s2 : St} {l : List Nat} {z : Int} (hov : Over s s2) (h : decide (0 ≤ z) = anyK l) : KH s [CT.id] (IAP l s) (some ([.i .i64 z], s2)) := by
  refine ⟨_, _, rfl, ?_⟩
  show IAP l s (.i .i64 z) (leave s s2 (.i .i64 z))
  rw [hov.leave rfl]
  exact ⟨rfl, z, rfl, h⟩
theorem indexAny_ok (l : List Nat) (hl : Txt l) (s : St) (hw : Wf s) : ∃ r s', (lim prog).call f_strings_IndexAny [.s l, .s K3] s = some (r, s') ∧ IAP l s r s' := by
  refine fn_G (Post := IAP l s) p_strings_IndexAny rfl rfl ?_
  have hlen := hl.len
  have k1 : ((K3 : List Nat) = []) = False := by simp
  have k2 : ((3 : Int) = 1) = False := by simp
  have hkl : List.length K3 = 3 := rfl
  have ia_cin : c_strings_IndexAny.cin = [.id, .id] := rfl
  have ia_res : c_strings_IndexAny.res = [(4, none)] := rfl
  have ia_cout : c_strings_IndexAny.cout = [.id] := rfl
  rw [ia_body, ia_cin, ia_res, ia_cout]
  by_cases h8 : (8 : Int) < (l.length : Int)
  · have hmk := mk_ok s.enter hw.enter
    have hb0 : (s.enter.new (.cells 130 Z256)).box? s.enter.nb = some (.cells 130 (bs F256)) := new_box_self s.enter _
    have st := bs_st hb0 len3' len0
    rw [new_set] at st
    obtain ⟨s1, hs1⟩ : ∃ s1, s.enter.new (.cells 130 (bs B3)) = s1 := ⟨_, rfl⟩
    have hb1 : s1.box? s.enter.nb = some (.cells 130 (bs B3)) := by rw [← hs1]; exact new_box_self s.enter _
    have ov1 : Over s s1 := by rw [← hs1]; exact (Over.enter s).new _
    rw [hs1] at st
    have hcells : (AV.agg (bs B3)).cells.length = 256 := by show (bs B3).length = 256; simpa using len3'
    simp only [go_sem, W_cond, WO_guard2, WE_guard2, WQ_guard2, W_regD, KB_n, KB_x, Nat.reduceBEq, Nat.reduceAdd, Nat.reduceLT, Nat.reduceLeDiff, Nat.reduceEqDiff, reduceIte, Int.reduceEq, reduceCtorEq, ofNat_len, hkl, Int.cast_ofNat_Int, k1, k2, shouldUse_ok, h8, hmk, st]
    refine W_loop (fun n e q => ∃ i : Nat, i + n = l.length ∧ q = s1 ∧ e.get 0 = .s l ∧ e.get 6 = .p s.enter.nb 0 ∧ e.get 8 = .i .i64 i ∧ ∀ (j : Nat) (hj : j < l.length), j < i → l[j] ∉ K3) ?_ l.length _ _ ?_
    · rintro n e q ⟨i, hi, rfl, g0, g6, g8, hno⟩
      simp only [go_sem, W_cond, WO_guard2, WE_guard2, WQ_guard2, W_regD, KB_n, KB_x, Nat.reduceBEq, Nat.reduceAdd, Nat.reduceLT, Nat.reduceLeDiff, Nat.reduceEqDiff, reduceIte, Int.reduceEq, reduceCtorEq, g0, g8, ofNat_len]
      refine CP_dec (fun hlt => ?_) (fun hge => ?_)
      · have hlt : i < l.length := by omega
        have hget : l[i]? = some l[i] := List.getElem?_eq_getElem hlt
        have h256 := hl.lt l[i] (List.getElem_mem hlt)
        have hc := contains_ok hb1 h256 (b3_get h256)
        simp only [go_sem, W_cond, WO_guard2, WE_guard2, WQ_guard2, W_regD, KB_n, KB_x, Nat.reduceBEq, Nat.reduceAdd, Nat.reduceLT, Nat.reduceLeDiff, Nat.reduceEqDiff, reduceIte, Int.reduceEq, reduceCtorEq, g0, g6, g8, natOf_i64, hget, ofNat_len, hc]
        refine CP_dec (fun hm => ?_) (fun hm => ?_)
        · exact KH_i ov1 (by rw [anyK_of hlt hm]; simp)
        · simp only [go_sem, W_cond, WO_guard2, WE_guard2, WQ_guard2, W_regD, KB_n, KB_x, Nat.reduceBEq, Nat.reduceAdd, Nat.reduceLT, Nat.reduceLeDiff, Nat.reduceEqDiff, reduceIte, Int.reduceEq, reduceCtorEq, wrap_succ (show i + 1 < 2 ^ 63 by omega), g0, g6, g8]
          refine ⟨n - 1, by omega, i + 1, by omega, rfl, fun j hj hji => ?_⟩
          by_cases hje : j = i
          · subst hje; exact hm
          · exact hno j hj (by omega)
      · exact KH_i ov1 (by rw [anyK_false fun j hj => hno j hj (by omega)]; decide)
    · simp only [go_sem, W_cond, WO_guard2, WE_guard2, WQ_guard2, W_regD, KB_n, KB_x, Nat.reduceBEq, Nat.reduceAdd, Nat.reduceLT, Nat.reduceLeDiff, Nat.reduceEqDiff, reduceIte, Int.reduceEq, reduceCtorEq]
      exact ⟨0, by omega, rfl, fun j hj h => by omega⟩
  · have hsi : ∀ p p', (s.enter.new (.siter l p)).setBox s.enter.nb (.siter l p') = s.enter.new (.siter l p') := fun p p' => new_set _ _ _
    simp only [go_sem, W_cond, WO_guard2, WE_guard2, WQ_guard2, W_regD, KB_n, KB_x, Nat.reduceBEq, Nat.reduceAdd, Nat.reduceLT, Nat.reduceLeDiff, Nat.reduceEqDiff, reduceIte, Int.reduceEq, reduceCtorEq, ofNat_len, hkl, Int.cast_ofNat_Int, k1, k2, shouldUse_ok, h8]
    refine W_loop (fun n e q => ∃ i : Nat, i + n = l.length ∧ q = s.enter.new (.siter l i) ∧ e.get 1 = .s K3 ∧ e.get 45 = .p s.enter.nb 0 ∧ ∀ (j : Nat) (hj : j < l.length), j < i → l[j] ∉ K3) ?_ l.length _ _ ?_
    · rintro n e q ⟨i, hi, rfl, g1, g45, hno⟩
      have ov1 : ∀ p, Over s (s.enter.new (.siter l p)) := fun p => (Over.enter s).new _
      by_cases hlt : i < l.length
      · have hget : l[i]? = some l[i] := List.getElem?_eq_getElem hlt
        by_cases h128 : l[i] < 128
        · have h128' : (l[i] < 128) = True := by simp [h128]
          have hr := indexRune_ok (l[i] : Int) (by omega) (by omega)
          simp only [go_sem, W_cond, WO_guard2, WE_guard2, WQ_guard2, W_regD, KB_n, KB_x, Nat.reduceBEq, Nat.reduceAdd, Nat.reduceLT, Nat.reduceLeDiff, Nat.reduceEqDiff, reduceIte, Int.reduceEq, reduceCtorEq, g1, g45, hget, h128', ofNat_len, hsi, hr]
          refine CP_dec (fun hm => ?_) (fun hm => ?_)
          · exact KH_i (ov1 _) (by rw [anyK_of hlt ((runeP_byte _ h128).1 hm)]; simp)
          · trace_state
            refine ⟨n - 1, by omega, i + 1, by omega, rfl, fun j hj hji => ?_⟩
            by_cases hje : j = i
            · subst hje; exact fun hh => hm ((runeP_byte _ h128).2 hh)
            · exact hno j hj (by omega)
        · have h128' : (l[i] < 128) = False := by simp [h128]
          obtain ⟨r, w, e1, e2, e3, e4, e5, e6⟩ := decode_l hl.lt hlt (by omega)
          have hr := indexRune_ok (r : Int) (by omega) (by omega)
          rw [runeP_neg (by omega)] at hr
          have hm1 : ((0 : Int) ≤ -1) = False := by simp
          simp only [go_sem, W_cond, WO_guard2, WE_guard2, WQ_guard2, W_regD, KB_n, KB_x, Nat.reduceBEq, Nat.reduceAdd, Nat.reduceLT, Nat.reduceLeDiff, Nat.reduceEqDiff, reduceIte, Int.reduceEq, reduceCtorEq, g1, g45, hget, h128', ofNat_len, hsi, e1, hr, hm1]
          refine ⟨n - w, by omega, i + w, by omega, rfl, fun j hj hji => ?_⟩
          by_cases hje : j < i
          · exact hno j hj hje
          · have := e6 j hj (by omega) hji
            simp only [List.mem_cons, List.not_mem_nil, or_false]
            omega
      · have hget : l[i]? = none := List.getElem?_eq_none (by omega)
        simp only [go_sem, W_cond, WO_guard2, WE_guard2, WQ_guard2, W_regD, KB_n, KB_x, Nat.reduceBEq, Nat.reduceAdd, Nat.reduceLT, Nat.reduceLeDiff, Nat.reduceEqDiff, reduceIte, Int.reduceEq, reduceCtorEq, g1, g45, hget]
        exact KH_i (ov1 _) (by rw [anyK_false fun j hj => hno j hj (by omega)]; decide)
    · simp only [go_sem, W_cond, WO_guard2, WE_guard2, WQ_guard2, W_regD, KB_n, KB_x, Nat.reduceBEq, Nat.reduceAdd, Nat.reduceLT, Nat.reduceLeDiff, Nat.reduceEqDiff, reduceIte, Int.reduceEq, reduceCtorEq]
      exact ⟨0, by omega, rfl, fun j hj h => by omega⟩
theorem containsAny_ok (l : List Nat) (hl : Txt l) (s : St) (hw : Wf s) : (lim prog).call f_strings_ContainsAny [.s l, .s K3] s = some (.b (anyK l), s) := by
  refine fn_W p_strings_ContainsAny rfl rfl ?_
  obtain ⟨r, s', h, rfl, z, rfl, hz⟩ := indexAny_ok l hl s.enter hw.enter
  simp only [c_strings_ContainsAny, go_sem, W_cond, WO_guard2, WE_guard2, WQ_guard2, W_regD, KB_n, KB_x, Nat.reduceBEq, Nat.reduceAdd, Nat.reduceLT, Nat.reduceLeDiff, Nat.reduceEqDiff, reduceIte, Int.reduceEq, reduceCtorEq, h]
  exact KR_some (Over.enter s) rfl (by rw [hz]; rfl)
def nameP (l : List Nat) : Bool := decide (l ≠ []) && (decide (l.length ≤ 64) && (decide (l ≠ [46]) && (decide (l ≠ [46, 46]) && !anyK l)))
theorem name_ok (l : List Nat) (hl : Txt l) (s : St) (hw : Wf s) : (lim prog).call f_path_Name [.s l] s = some (.b (nameP l), s) := by
  refine fn_W p_path_Name rfl rfl ?_
  have hc := containsAny_ok l hl s.enter hw.enter
  have hk : ∀ b, b = nameP l → KR s [CT.id] (.b (nameP l)) (some ([.b b], s.enter)) := fun b hb => KR_some (Over.enter s) rfl (by rw [hb]; rfl)
  have h64i : ∀ h : l.length ≤ 64, (((l.length : Nat) : Int) ≤ 64) = True := fun h => by simp; omega
  by_cases h1 : l = []
  · have h1' : (l ≠ []) = False := by simp [h1]
    simp only [c_path_Name, go_sem, W_cond, WO_guard2, WE_guard2, WQ_guard2, W_regD, KB_n, KB_x, Nat.reduceBEq, Nat.reduceAdd, Nat.reduceLT, Nat.reduceLeDiff, Nat.reduceEqDiff, reduceIte, Int.reduceEq, reduceCtorEq, h1']
    exact hk _ (by simp [nameP, h1])
  · have h1' : (l ≠ []) = True := by simp [h1]
    by_cases h2 : l.length ≤ 64
    · have h2' := h64i h2
      by_cases h3 : l = [46]
      · have h3' : (l ≠ [46]) = False := by simp [h3]
        simp only [c_path_Name, go_sem, W_cond, WO_guard2, WE_guard2, WQ_guard2, W_regD, KB_n, KB_x, Nat.reduceBEq, Nat.reduceAdd, Nat.reduceLT, Nat.reduceLeDiff, Nat.reduceEqDiff, reduceIte, Int.reduceEq, reduceCtorEq, ofNat_len, h1', h2', h3']
        exact hk _ (by simp [nameP, h3])
      · have h3' : (l ≠ [46]) = True := by simp [h3]
        by_cases h4 : l = [46, 46]
        · have h4' : (l ≠ [46, 46]) = False := by simp [h4]
          simp only [c_path_Name, go_sem, W_cond, WO_guard2, WE_guard2, WQ_guard2, W_regD, KB_n, KB_x, Nat.reduceBEq, Nat.reduceAdd, Nat.reduceLT, Nat.reduceLeDiff, Nat.reduceEqDiff, reduceIte, Int.reduceEq, reduceCtorEq, ofNat_len, h1', h2', h3', h4']
          exact hk _ (by simp [nameP, h4])
        · have h4' : (l ≠ [46, 46]) = True := by simp [h4]
          simp only [c_path_Name, go_sem, W_cond, WO_guard2, WE_guard2, WQ_guard2, W_regD, KB_n, KB_x, Nat.reduceBEq, Nat.reduceAdd, Nat.reduceLT, Nat.reduceLeDiff, Nat.reduceEqDiff, reduceIte, Int.reduceEq, reduceCtorEq, ofNat_len, h1', h2', h3', h4', hc]
          exact hk _ (by simp [nameP, h1, h2, h3, h4])
    · have h2' : (((l.length : Nat) : Int) ≤ 64) = False := by simp; omega
      simp only [c_path_Name, go_sem, W_cond, WO_guard2, WE_guard2, WQ_guard2, W_regD, KB_n, KB_x, Nat.reduceBEq, Nat.reduceAdd, Nat.reduceLT, Nat.reduceLeDiff, Nat.reduceEqDiff, reduceIte, Int.reduceEq, reduceCtorEq, ofNat_len, h1', h2']
      exact hk _ (by simp [nameP, h2])
end Go.Proofs.Ytgloinighjdhlaa

/-
  ftree.Well.
-/
set_option maxRecDepth 100000
set_option linter.unusedSimpArgs false
set_option linter.constructorNameAsVariable false
namespace Go.Proofs.Ytgloinighjdhlaa
open Go.Proofs.Ytgloinighjdhlaa.Am
theorem bs_leq (x y : List Nat) : Am.binOp .leq (.s x) (.s y) = some (.b (ltN x y || beqN x y)) := by simp [Am.binOp, strOp]
theorem ltN_total : ∀ (a b : List Nat), (ltN a b || beqN a b) = !ltN b a
  | [], [] => rfl
  | [], _ :: _ => rfl
  | _ :: _, [] => rfl
  | a :: x, b :: y => by
    have := ltN_total x y
    simp only [ltN, beqN]
    rcases Nat.lt_trichotomy a b with h | h | h
    · have e1 : Nat.blt a b = true := by rw [Nat.blt_eq]; exact h
      have e2 : Nat.blt b a = false := by rw [Bool.eq_false_iff]; intro hh; rw [Nat.blt_eq] at hh; omega
      have e3 : Nat.beq b a = false := by rw [Bool.eq_false_iff]; intro hh; rw [Nat.beq_eq] at hh; omega
      simp [e1, e2, e3]
    · subst h
      have e1 : Nat.blt a a = false := by rw [Bool.eq_false_iff]; intro hh; rw [Nat.blt_eq] at hh; omega
      simp only [e1, Nat.beq_refl, Bool.true_and, Bool.false_or, this]
    · have e1 : Nat.blt b a = true := by rw [Nat.blt_eq]; exact h
      have e2 : Nat.blt a b = false := by rw [Bool.eq_false_iff]; intro hh; rw [Nat.blt_eq] at hh; omega
      have e3 : Nat.beq a b = false := by rw [Bool.eq_false_iff]; intro hh; rw [Nat.beq_eq] at hh; omega
      simp [e1, e2, e3]
end Go.Proofs.Ytgloinighjdhlaa

/-
  Iterators over the pieces of a text.
-/
set_option maxRecDepth 100000
set_option linter.unusedSimpArgs false
set_option linter.constructorNameAsVariable false
namespace Go.Proofs.Ytgloinighjdhlaa
open Go.Proofs.Ytgloinighjdhlaa.Am
def segs : List Nat → List Nat → List (List Nat)
  | cur, [] => [cur]
  | cur, c :: l => if c = 47 then cur :: segs [] l else segs (cur ++ [c]) l
def splitL (l : List Nat) : List (List Nat) := segs [] l
theorem leave_refs {s s1 : St} {v : AV} (h : v.refs = true) : leave s s1 v = { s1 with lo := min s.lo s1.lo } := by
  unfold Am.leave
  rw [h, Bool.not_true, Bool.and_false, if_neg (by simp)]
end Go.Proofs.Ytgloinighjdhlaa

/-
  Steps of a path: the iterator.
-/
set_option maxRecDepth 100000
set_option linter.unusedSimpArgs false
set_option linter.constructorNameAsVariable false
namespace Go.Proofs.Ytgloinighjdhlaa
open Go.Proofs.Ytgloinighjdhlaa.Am
def stepOk (x : List Nat) : Bool := decide (x ≠ []) && decide (x ≠ [46])
def cnt (l : List Nat) (j : Nat) : Nat := (((splitL l).take j).filter stepOk).length
end Go.Proofs.Ytgloinighjdhlaa

/-
  Steps and Clean.
-/
set_option maxRecDepth 100000
set_option linter.unusedSimpArgs false
set_option linter.constructorNameAsVariable false
namespace Go.Proofs.Ytgloinighjdhlaa
open Go.Proofs.Ytgloinighjdhlaa.Am
/-! ### Clean -/
end Go.Proofs.Ytgloinighjdhlaa

/-
  Steps.
-/
set_option maxRecDepth 100000
set_option linter.unusedSimpArgs false
set_option linter.constructorNameAsVariable false
namespace Go.Proofs.Ytgloinighjdhlaa
open Go.Proofs.Ytgloinighjdhlaa.Am
end Go.Proofs.Ytgloinighjdhlaa

/-
  The document's functions of layer 6.
-/
set_option maxRecDepth 100000
set_option linter.unusedSimpArgs false
set_option linter.constructorNameAsVariable false
namespace Go.Proofs.Ytgloinighjdhlaa
open Go.Proofs.Ytgloinighjdhlaa.Am
theorem anyK_or (l : List Nat) : anyK l = false ↔ ∀ (i : Nat) (h : i < l.length), l[i] ≠ 0 ∧ l[i] ≠ 47 ∧ l[i] ≠ 10 := by
  constructor
  · intro h i hi
    unfold anyK at h
    rw [List.any_eq_false] at h
    have := h l[i] (List.getElem_mem hi)
    simp only [List.mem_cons, List.not_mem_nil, or_false, decide_eq_true_eq, not_or] at this
    exact ⟨this.2.1, this.1, this.2.2⟩
  · intro h
    refine anyK_false fun i hi => ?_
    obtain ⟨h1, h2, h3⟩ := h i hi
    simp [h1, h2, h3]
theorem refName_ok (l : List Nat) (hl : l.length < 2 ^ 63) (s : St) : (lim prog).call f_touchstoneref06_Name [.s l] s = some (.b (nameP l), s) := by
  refine fn_W p_touchstoneref06_Name rfl rfl ?_
  have hk : ∀ b, b = nameP l → KR s [CT.id] (.b (nameP l)) (some ([.b b], s.enter)) := fun b hb => KR_some (Over.enter s) rfl (by rw [hb]; rfl)
  by_cases h1 : l = []
  · have h1' : (l = []) = True := by simp [h1]
    simp only [c_touchstoneref06_Name, go_sem, W_cond, WO_guard2, WE_guard2, WQ_guard2, W_regD, KB_n, KB_x, Nat.reduceBEq, Nat.reduceAdd, Nat.reduceLT, Nat.reduceLeDiff, Nat.reduceEqDiff, reduceIte, Int.reduceEq, reduceCtorEq, h1']
    exact hk _ (by simp [nameP, h1])
  have h1' : (l = []) = False := by simp [h1]
  by_cases h2 : (64 : Int) < (l.length : Int)
  · simp only [c_touchstoneref06_Name, go_sem, W_cond, WO_guard2, WE_guard2, WQ_guard2, W_regD, KB_n, KB_x, Nat.reduceBEq, Nat.reduceAdd, Nat.reduceLT, Nat.reduceLeDiff, Nat.reduceEqDiff, reduceIte, Int.reduceEq, reduceCtorEq, h1', ofNat_len, h2]
    exact hk _ (by have : ¬ l.length ≤ 64 := by omega
                   simp [nameP, this])
  by_cases h3 : l = [46]
  · have h3' : (l = [46]) = True := by simp [h3]
    simp only [c_touchstoneref06_Name, go_sem, W_cond, WO_guard2, WE_guard2, WQ_guard2, W_regD, KB_n, KB_x, Nat.reduceBEq, Nat.reduceAdd, Nat.reduceLT, Nat.reduceLeDiff, Nat.reduceEqDiff, reduceIte, Int.reduceEq, reduceCtorEq, h1', ofNat_len, h2, h3']
    exact hk _ (by simp [nameP, h3])
  have h3' : (l = [46]) = False := by simp [h3]
  by_cases h4 : l = [46, 46]
  · have h4' : (l = [46, 46]) = True := by simp [h4]
    simp only [c_touchstoneref06_Name, go_sem, W_cond, WO_guard2, WE_guard2, WQ_guard2, W_regD, KB_n, KB_x, Nat.reduceBEq, Nat.reduceAdd, Nat.reduceLT, Nat.reduceLeDiff, Nat.reduceEqDiff, reduceIte, Int.reduceEq, reduceCtorEq, h1', ofNat_len, h2, h3', h4']
    exact hk _ (by simp [nameP, h4])
  have h4' : (l = [46, 46]) = False := by simp [h4]
  have hle : l.length ≤ 64 := by omega
  have hN : nameP l = !anyK l := by simp [nameP, h1, h3, h4, hle]
  simp only [c_touchstoneref06_Name, go_sem, W_cond, WO_guard2, WE_guard2, WQ_guard2, W_regD, KB_n, KB_x, Nat.reduceBEq, Nat.reduceAdd, Nat.reduceLT, Nat.reduceLeDiff, Nat.reduceEqDiff, reduceIte, Int.reduceEq, reduceCtorEq, h1', ofNat_len, h2, h3', h4']
  refine W_loop (fun n e q => s.enter = q ∧ e.get 0 = .s l ∧ ∃ i : Nat, i + n = l.length ∧ e.get 3 = .i .i64 i ∧ ∀ (j : Nat) (h : j < l.length), j < i → l[j] ≠ 0 ∧ l[j] ≠ 47 ∧ l[j] ≠ 10) ?_ l.length _ _ ?_
  · rintro n e q ⟨rfl, g0, i, hi, g3, hno⟩
    simp only [go_sem, W_cond, WO_guard2, WE_guard2, WQ_guard2, W_regD, KB_n, KB_x, Nat.reduceBEq, Nat.reduceAdd, Nat.reduceLT, Nat.reduceLeDiff, Nat.reduceEqDiff, reduceIte, Int.reduceEq, reduceCtorEq, g0, g3, ofNat_len]
    refine CP_dec (fun hlt => ?_) (fun hge => ?_)
    · have hlt : i < l.length := by omega
      have hget : l[i]? = some l[i] := List.getElem?_eq_getElem hlt
      obtain ⟨c, hc⟩ : ∃ c, l[i] = c := ⟨_, rfl⟩
      rw [hc] at hget
      have hbad : c ∈ K3 → nameP l = false := fun hm => by rw [hN, anyK_of hlt (by rw [hc]; exact hm)]; rfl
      by_cases c0 : c = 0
      · have c0' : ((c : Int) = 0) = True := by simp [c0]
        simp only [go_sem, W_cond, WO_guard2, WE_guard2, WQ_guard2, W_regD, KB_n, KB_x, Nat.reduceBEq, Nat.reduceAdd, Nat.reduceLT, Nat.reduceLeDiff, Nat.reduceEqDiff, reduceIte, Int.reduceEq, reduceCtorEq, g0, g3, natOf_i64, hget, ofNat_len, c0']
        exact hk _ (hbad (by simp [c0])).symm
      have c0' : ((c : Int) = 0) = False := by simp; omega
      by_cases c1 : c = 47
      · have c1' : ((c : Int) = 47) = True := by simp; omega
        simp only [go_sem, W_cond, WO_guard2, WE_guard2, WQ_guard2, W_regD, KB_n, KB_x, Nat.reduceBEq, Nat.reduceAdd, Nat.reduceLT, Nat.reduceLeDiff, Nat.reduceEqDiff, reduceIte, Int.reduceEq, reduceCtorEq, g0, g3, natOf_i64, hget, ofNat_len, c0', c1']
        exact hk _ (hbad (by simp [c1])).symm
      have c1' : ((c : Int) = 47) = False := by simp; omega
      by_cases c2 : c = 10
      · have c2' : ((c : Int) = 10) = True := by simp; omega
        simp only [go_sem, W_cond, WO_guard2, WE_guard2, WQ_guard2, W_regD, KB_n, KB_x, Nat.reduceBEq, Nat.reduceAdd, Nat.reduceLT, Nat.reduceLeDiff, Nat.reduceEqDiff, reduceIte, Int.reduceEq, reduceCtorEq, g0, g3, natOf_i64, hget, ofNat_len, c0', c1', c2']
        exact hk _ (hbad (by simp [c2])).symm
      have c2' : ((c : Int) = 10) = False := by simp; omega
      simp only [go_sem, W_cond, WO_guard2, WE_guard2, WQ_guard2, W_regD, KB_n, KB_x, Nat.reduceBEq, Nat.reduceAdd, Nat.reduceLT, Nat.reduceLeDiff, Nat.reduceEqDiff, reduceIte, Int.reduceEq, reduceCtorEq, g0, g3, natOf_i64, hget, ofNat_len, c0', c1', c2', wrap_succ (show i + 1 < 2 ^ 63 by omega)]
      refine ⟨n - 1, by omega, i + 1, by omega, rfl, fun j hj hji => ?_⟩
      by_cases hje : j = i
      · subst hje; rw [hc]; exact ⟨c0, c1, c2⟩
      · exact hno j hj (by omega)
    · exact hk _ (by rw [hN, (anyK_or l).2 fun i hi => hno i hi (by omega)]; rfl)
  · simp only [go_sem, W_cond, WO_guard2, WE_guard2, WQ_guard2, W_regD, KB_n, KB_x, Nat.reduceBEq, Nat.reduceAdd, Nat.reduceLT, Nat.reduceLeDiff, Nat.reduceEqDiff, reduceIte, Int.reduceEq, reduceCtorEq]
    exact ⟨0, by omega, rfl, fun j hj h => by omega⟩
theorem rowP_shape {es t0 T : Nat} {s : St} {a : AV} {xs : List AV} (hr : RowP es t0 s T a xs) : (a = .nsl ∧ xs = []) ∨ ∃ k v, a = .sl es xs (.tok k v) := by
  rcases hr with h | ⟨k, v, t, rfl, _⟩
  · exact .inl h
  · exact .inr ⟨k, v, rfl⟩
end Go.Proofs.Ytgloinighjdhlaa

/-
  slices.Clone of texts, over a heap.
-/
set_option maxRecDepth 100000
set_option linter.unusedSimpArgs false
set_option linter.constructorNameAsVariable false
namespace Go.Proofs.Ytgloinighjdhlaa
open Go.Proofs.Ytgloinighjdhlaa.Am
theorem le11s : (1 ≤ 1) = True := by simp
theorem clone_nil (s : St) : (lim prog).call f_slices_Clone_string_string [tx []] s = some (.ws true 1 [], { s with lo := min s.lo s.nb }) := by
  rw [lim_call]
  unfold callF
  rw [p_slices_Clone_string_string]
  have h1 : wkZ c_slices_Clone_string_string.cin [tx []] = [.ws false 1 []] := by
    simp [c_slices_Clone_string_string, wkZ, wk, wkM]
  have h2 : both c_slices_Clone_string_string [.ws false 1 []] = some (.ws true 1 []) := by rfl
  have h3 : Nat.ble [tx []].length c_slices_Clone_string_string.ntmps = true := rfl
  have h4 : c_slices_Clone_string_string.prim = none := rfl
  simp only [h4, h3, h1, h2]
theorem clone_cons (x : List Nat) (L : List (List Nat)) (hL : (x :: L).length < 2 ^ 38) (s : St) :
    (lim prog).call f_slices_Clone_string_string [tx (x :: L)] s = some (.sl 1 ((x :: L).map .s) (.tok s.nt 0), { s.newTok (x :: L).length (some 9) with lo := min s.lo s.nb }) := by
  have h1 : wkZ c_slices_Clone_string_string.cin [tx (x :: L)] = [tx (x :: L)] := by
    have := (told_tx (x :: L)).wk
    simp only [c_slices_Clone_string_string, wkZ, this]
  obtain ⟨r, s', hc, rfl, rfl⟩ := fn_K (t := 2) (s := s) (args := [tx (x :: L)]) (Post := fun r s' => r = .sl 1 ((x :: L).map .s) (.tok s.nt 0) ∧ s' = { s.newTok (x :: L).length (some 9) with lo := min s.lo s.nb }) p_slices_Clone_string_string rfl rfl rfl (by rw [h1]; rfl) (by
    rw [h1]
    have heq : eqS (tx (x :: L)) .nsl = some false := rfl
    have ha : appA s.enter 1 9 (.sl 1 [] .full) (tx (x :: L)) = some (.sl 1 ((x :: L).map .s) (.tok s.nt 0), s.enter.newTok (x :: L).length (some 9)) := by
      simp only [tx, List.map_cons, appA, elems, if_true, List.nil_append, List.length_nil, Nat.zero_add, true_and]
      rw [if_pos (by simpa using hL)]
      simp [St.enter]
    have hal : allLen 1 [] = true := rfl
    simp only [c_slices_Clone_string_string, go_sem, W_cond, WO_guard2, WE_guard2, WQ_guard2, W_regD, KB_n, KB_x, Nat.reduceBEq, Nat.reduceAdd, Nat.reduceLT, Nat.reduceLeDiff, Nat.reduceEqDiff, reduceIte, Int.reduceEq, reduceCtorEq, heq, hal, le11s, ha, KK_n, KK_r]
    rfl)
  exact hc
theorem clone_hp {s0 s : St} {n : En} {R : List RA} {B : List (Nat × Box)} (H : Hp s0 s n R B) (L : List (List Nat)) (hL : L.length < 2 ^ 38) :
    ∃ r s', (lim prog).call f_slices_Clone_string_string [tx L] s = some (r, s') ∧ Hp s0 s' n (⟨1, 9, r, L.map .s, true⟩ :: R) B ∧ s'.nb = s.nb := by
  have hlo := H.lo
  have h1 := H.over.lo
  have h2 := H.over.nb
  cases L with
  | nil =>
    refine ⟨_, _, clone_nil s, ?_, rfl⟩
    exact (H.setLo (m := min s.lo s.nb) (by omega) (by omega)).addFull 1 9 true .ws
  | cons x L =>
    refine ⟨_, _, clone_cons x L hL s, ?_, rfl⟩
    have := H.newTok 1 9 ((x :: L).map .s)
    rw [List.length_map] at this
    exact this.setLo (m := min s.lo s.nb) (by omega) (by omega)
theorem clone_hpQ {s0 s : St} {n : En} {R : List RA} {B : List (Nat × Box)} (H : Hp s0 s n R B) (L : List (List Nat)) (hL : L.length < 2 ^ 38) :
    ∃ r s1 a s', (lim prog).call f_slices_Clone_string_string [tx L] s = some (r, s1) ∧ shutA false s1 r = some (a, s') ∧ Told1 1 a (L.map .s) ∧ Hp s0 s' n R B ∧ s'.nb = s.nb := by
  obtain ⟨r, s1, h1, H1, e1⟩ := clone_hp H L hL
  obtain ⟨a, s', h2, h3, H2, e2⟩ := H1.pub 0 rfl
  refine ⟨r, s1, a, s', h1, h2, h3, ?_, by omega⟩
  exact H2.dropR
end Go.Proofs.Ytgloinighjdhlaa

/-
  Facts as values; pat.dir, pat.one and the document's.
-/
set_option maxRecDepth 100000
set_option maxHeartbeats 2000000
set_option linter.unusedSimpArgs false
set_option linter.constructorNameAsVariable false
namespace Go.Proofs.Ytgloinighjdhlaa
open Go.Proofs.Ytgloinighjdhlaa.Am
attribute [local irreducible] W WO WE WQ WD Tr.get Tr.set
def zx (L : List Int) : AV := .ws false 1 (L.map iv)
def FT.cells (f : FT) : List AV := [.b f.known, .i .u8 (f.kind : Nat), tx f.names, zx f.kids, .i .i64 f.rest, .i .i64 f.beside]
def FT.av (f : FT) : AV := .agg f.cells
def fx (l : List FT) : AV := .ws false 6 (l.map FT.av)
structure FT.Ok (f : FT) : Prop where
  kind : f.kind < 256
  names : ∀ l ∈ f.names, Txt l ∧ l.length < 2 ^ 62
  nlen : f.names.length < 2 ^ 34
  klen : f.kids.length < 2 ^ 34
def FT.isDir (f : FT) : Bool := f.known && decide (f.kind = 2)
def ascN : Option (List Nat) → List (List Nat) → Bool
  | _, [] => true
  | p, s :: ns => nameP s && ((match p with | none => true | some q => ltN q s) && ascN (some s) ns)
theorem ascN_snoc : ∀ (p : Option (List Nat)) (ns : List (List Nat)) (s : List Nat),
    ascN p (ns ++ [s]) = (ascN p ns && (nameP s && (match ns.getLast?.or p with | none => true | some q => ltN q s)))
  | p, [], s => by
    simp only [List.nil_append, ascN, Bool.and_true, Bool.true_and, List.getLast?_nil, Option.none_or]
  | p, a :: ns, s => by
    simp only [List.cons_append, ascN, ascN_snoc (some a) ns s, Bool.and_assoc]
    have : (a :: ns).getLast?.or p = (ns.getLast?.or (some a)) := by
      cases ns with
      | nil => rfl
      | cons c ns =>
        cases hns : (c :: ns).getLast? with
        | none => simp at hns
        | some v => rw [List.getLast?_cons_cons, hns]; rfl
    rw [this]
theorem ascN_take : ∀ (p : Option (List Nat)) (ns : List (List Nat)) (i : Nat), ascN p ns = true → ascN p (ns.take i) = true
  | _, _, 0, _ => by simp [ascN]
  | _, [], i + 1, _ => by simp [ascN]
  | p, s :: ns, i + 1, h => by
    simp only [List.take_succ_cons, ascN, Bool.and_eq_true] at h ⊢
    exact ⟨h.1, h.2.1, ascN_take (some s) ns i h.2.2⟩
def FT.restB (f : FT) : Bool := if f.rest = 2 then decide (0 ≤ f.beside) && decide (f.beside ≤ (f.names.length : Int)) else (decide (f.rest = 0) || decide (f.rest = 1)) && decide (f.beside = 0)
def FT.bad (f : FT) : Bool := decide (3 < f.kind) || ((!f.known && decide (f.kind ≠ 0)) || decide (f.names.length ≠ f.kids.length))
def FT.one (f : FT) : Bool := !f.bad && (if f.isDir then ascN none f.names && f.restB else decide (f.names.length = 0) && (decide (f.rest = 0) && decide (f.beside = 0)))
theorem cells6 (f : FT) : f.cells.length = 6 := rfl
theorem fx_get {l : List FT} {i : Nat} {f : FT} (h : l[i]? = some f) : (l.map FT.av)[i]? = some (.agg f.cells) := by
  rw [List.getElem?_map, h]; rfl
theorem ld_cells6 (f : FT) (s : St) : ldA s true 6 (.ep f.cells 0 .shut) = some (.agg f.cells) := rfl
theorem pub_cells6 (f : FT) (s : St) : pubL s f.cells = some (f.cells, s) := rfl
theorem dir_ok (f : FT) (s : St) (hw : Wf s) : (lim prog).call f_pat_dir [.agg f.cells] s = some (.b f.isDir, s) := by
  refine fn_W p_pat_dir rfl rfl ?_
  have H1 := (Hp.begin hw).new (.cells 60 f.cells)
  generalize hq : s.enter.new (.cells 60 f.cells) = q at H1
  generalize hm : s.enter.nb = m at H1
  have l0 := H1.ld 0 (off := 0) (v := .b f.known) rfl rfl
  have l1 := H1.ld 0 (off := 1) (v := .i .u8 (f.kind : Nat)) rfl rfl
  have hz0 : wkZ c_pat_dir.cin [.agg f.cells] = [.agg f.cells] := by simp [c_pat_dir, wkZ, wk, FT.cells, zx]
  rw [hz0]
  have hbr : ∀ b, KR s [.id] (.b b) (some ([.b b], q)) := fun b => KR_some H1.over rfl rfl
  have e1 : ((f.kind : Int) = 2) = (f.kind = 2) := by simp only [eq_iff_iff]; omega
  unfold FT.isDir
  cases hk : f.known
  · rw [hk] at l0
    simp only [c_pat_dir, go_sem, W_cond2, WO_guard3, WE_guard3, WQ_guard3, KB_n, KB_x, Nat.reduceBEq, Nat.reduceAdd, Nat.reduceLT, Nat.reduceLeDiff, Nat.reduceEqDiff, reduceIte, Int.reduceEq, reduceCtorEq, cells6, hq, hm, l0, l1, Nat.zero_add, e1, Bool.false_and]
    exact hbr _
  · rw [hk] at l0
    simp only [c_pat_dir, go_sem, W_cond2, WO_guard3, WE_guard3, WQ_guard3, KB_n, KB_x, Nat.reduceBEq, Nat.reduceAdd, Nat.reduceLT, Nat.reduceLeDiff, Nat.reduceEqDiff, reduceIte, Int.reduceEq, reduceCtorEq, cells6, hq, hm, l0, l1, Nat.zero_add, e1, Bool.true_and]
    exact hbr _
theorem ref20dir_ok (f : FT) (s : St) (hw : Wf s) : (lim prog).call f_touchstoneref20_dir [.agg f.cells] s = some (.b f.isDir, s) := by
  refine fn_W p_touchstoneref20_dir rfl rfl ?_
  have H1 := (Hp.begin hw).new (.cells 60 f.cells)
  generalize hq : s.enter.new (.cells 60 f.cells) = q at H1
  generalize hm : s.enter.nb = m at H1
  have l0 := H1.ld 0 (off := 0) (v := .b f.known) rfl rfl
  have l1 := H1.ld 0 (off := 1) (v := .i .u8 (f.kind : Nat)) rfl rfl
  have hz0 : wkZ c_touchstoneref20_dir.cin [.agg f.cells] = [.agg f.cells] := by simp [c_touchstoneref20_dir, wkZ, wk, FT.cells, zx]
  rw [hz0]
  have hbr : ∀ b, KR s [.id] (.b b) (some ([.b b], q)) := fun b => KR_some H1.over rfl rfl
  have e1 : ((f.kind : Int) = 2) = (f.kind = 2) := by simp only [eq_iff_iff]; omega
  unfold FT.isDir
  cases hk : f.known
  · rw [hk] at l0
    simp only [c_touchstoneref20_dir, go_sem, W_cond2, WO_guard3, WE_guard3, WQ_guard3, KB_n, KB_x, Nat.reduceBEq, Nat.reduceAdd, Nat.reduceLT, Nat.reduceLeDiff, Nat.reduceEqDiff, reduceIte, Int.reduceEq, reduceCtorEq, cells6, hq, hm, l0, l1, Nat.zero_add, e1, Bool.false_and]
    exact hbr _
  · rw [hk] at l0
    simp only [c_touchstoneref20_dir, go_sem, W_cond2, WO_guard3, WE_guard3, WQ_guard3, KB_n, KB_x, Nat.reduceBEq, Nat.reduceAdd, Nat.reduceLT, Nat.reduceLeDiff, Nat.reduceEqDiff, reduceIte, Int.reduceEq, reduceCtorEq, cells6, hq, hm, l0, l1, Nat.zero_add, e1, Bool.true_and]
    exact hbr _
theorem storedir_ok (f : FT) (s : St) (hw : Wf s) : (lim prog).call f_store_dir [.agg f.cells] s = some (.b f.isDir, s) := by
  refine fn_W p_store_dir rfl rfl ?_
  have H1 := (Hp.begin hw).new (.cells 60 f.cells)
  generalize hq : s.enter.new (.cells 60 f.cells) = q at H1
  generalize hm : s.enter.nb = m at H1
  have l0 := H1.ld 0 (off := 0) (v := .b f.known) rfl rfl
  have l1 := H1.ld 0 (off := 1) (v := .i .u8 (f.kind : Nat)) rfl rfl
  have hz0 : wkZ c_store_dir.cin [.agg f.cells] = [.agg f.cells] := by simp [c_store_dir, wkZ, wk, FT.cells, zx]
  rw [hz0]
  have hbr : ∀ b, KR s [.id] (.b b) (some ([.b b], q)) := fun b => KR_some H1.over rfl rfl
  have e1 : ((f.kind : Int) = 2) = (f.kind = 2) := by simp only [eq_iff_iff]; omega
  unfold FT.isDir
  cases hk : f.known
  · rw [hk] at l0
    simp only [c_store_dir, go_sem, W_cond2, WO_guard3, WE_guard3, WQ_guard3, KB_n, KB_x, Nat.reduceBEq, Nat.reduceAdd, Nat.reduceLT, Nat.reduceLeDiff, Nat.reduceEqDiff, reduceIte, Int.reduceEq, reduceCtorEq, cells6, hq, hm, l0, l1, Nat.zero_add, e1, Bool.false_and]
    exact hbr _
  · rw [hk] at l0
    simp only [c_store_dir, go_sem, W_cond2, WO_guard3, WE_guard3, WQ_guard3, KB_n, KB_x, Nat.reduceBEq, Nat.reduceAdd, Nat.reduceLT, Nat.reduceLeDiff, Nat.reduceEqDiff, reduceIte, Int.reduceEq, reduceCtorEq, cells6, hq, hm, l0, l1, Nat.zero_add, e1, Bool.true_and]
    exact hbr _
end Go.Proofs.Ytgloinighjdhlaa

/-
  pat.one.
-/
set_option maxRecDepth 100000
set_option maxHeartbeats 4000000
set_option linter.unusedSimpArgs false
set_option linter.constructorNameAsVariable false
namespace Go.Proofs.Ytgloinighjdhlaa
open Go.Proofs.Ytgloinighjdhlaa.Am
attribute [local irreducible] W WO WE WQ WD Tr.get Tr.set
theorem getLast_take' {L : List (List Nat)} {i : Nat} {y : List Nat} (h : L[i]? = some y) : (L.take (i + 1)).getLast? = some y := by
  rw [List.take_add_one, h]
  simp
theorem cond2_ff (a b : Bool) : (if (false = true) then a else b) = b := rfl
theorem cond2_tt (a b : Bool) : (if (true = true) then a else b) = a := rfl
theorem one_ok (f : FT) (ho : f.Ok) (s : St) (hw : Wf s) : (lim prog).call f_pat_one [.agg f.cells] s = some (.b f.one, s) := by
  refine fn_W p_pat_one rfl rfl ?_
  have H1 := (Hp.begin hw).new (.cells 60 f.cells)
  generalize hq : s.enter.new (.cells 60 f.cells) = q at H1
  generalize hm : s.enter.nb = m at H1
  have l0 := H1.ld 0 (off := 0) (v := .b f.known) rfl rfl
  have l1 := H1.ld 0 (off := 1) (v := .i .u8 (f.kind : Nat)) rfl rfl
  have l2 := H1.ld 0 (off := 2) (v := tx f.names) rfl rfl
  have l3 := H1.ld 0 (off := 3) (v := zx f.kids) rfl rfl
  have l4 := H1.ld 0 (off := 4) (v := .i .i64 f.rest) rfl rfl
  have l5 := H1.ld 0 (off := 5) (v := .i .i64 f.beside) rfl rfl
  have lw := H1.ldw (m := 6) 0 rfl rfl
  have hz0 : wkZ c_pat_one.cin [.agg f.cells] = [.agg f.cells] := by simp [c_pat_one, wkZ, wk, FT.cells, zx]
  rw [hz0]
  have hbr : ∀ b, KR s [.id] (.b b) (some ([.b b], q)) := fun b => KR_some H1.over rfl rfl
  have hd := dir_ok f q H1.wf
  unfold FT.one
  cases hb : f.bad
  · have hnb : ¬ (3 < f.kind) ∧ ((!f.known && decide (f.kind ≠ 0)) = false) ∧ f.names.length = f.kids.length := by
      unfold FT.bad at hb
      simp only [Bool.or_eq_false_iff, decide_eq_false_iff_not, Decidable.not_not] at hb
      exact ⟨hb.1, hb.2.1, by simpa using hb.2.2⟩
    obtain ⟨a1, a2, a3⟩ := hnb
    have e1 : ((3 : Int) < (f.kind : Int)) = False := by simp only [eq_iff_iff, iff_false]; omega
    have e3 : ((f.names.length : Int) ≠ (f.kids.length : Int)) = False := by simp only [ne_eq, eq_iff_iff, iff_false]; omega
    have hx : ∃ kn : Bool, f.known = kn ∧ ((kn = false ∧ ((f.kind : Int) ≠ 0) = False) ∨ (kn = true ∧ (True = True))) := by
      cases hk : f.known
      · rw [hk] at a2
        exact ⟨_, rfl, .inl ⟨rfl, by simpa using a2⟩⟩
      · exact ⟨_, rfl, .inr ⟨rfl, rfl⟩⟩
    obtain ⟨kn, hk, hx⟩ := hx
    rw [hk] at l0
    rw [Bool.not_false, Bool.true_and]
    cases hi : f.isDir
    · rw [hi] at hd
      rw [cond2_ff]
      by_cases d1 : f.names.length = 0
      · have r1 : (((f.names.length : Nat) : Int) = 0) = True := by simp [d1]
        by_cases d2 : f.rest = 0
        · have r2 : (f.rest = 0) = True := by simp [d2]
          rw [decide_eq_true d1, decide_eq_true d2, Bool.true_and, Bool.true_and]
          rcases hx with ⟨rfl, e2⟩ | ⟨rfl, e2⟩ <;> simp only [c_pat_one, go_sem, W_cond2, WO_guard3, WE_guard3, WQ_guard3, KB_n, KB_x, Nat.reduceBEq, Nat.reduceAdd, Nat.reduceLT, Nat.reduceLeDiff, Nat.reduceEqDiff, reduceIte, Int.reduceEq, reduceCtorEq, cells6, hq, hm, l0, l1, l2, l3, l4, l5, lw, hd, zx, Nat.zero_add, e1, e2, List.length_map, e3, r1, r2, pub_cells6] <;> exact hbr _
        · have r2 : (f.rest = 0) = False := by simp [d2]
          rw [decide_eq_true d1, decide_eq_false d2, Bool.false_and, Bool.and_false]
          rcases hx with ⟨rfl, e2⟩ | ⟨rfl, e2⟩ <;> simp only [c_pat_one, go_sem, W_cond2, WO_guard3, WE_guard3, WQ_guard3, KB_n, KB_x, Nat.reduceBEq, Nat.reduceAdd, Nat.reduceLT, Nat.reduceLeDiff, Nat.reduceEqDiff, reduceIte, Int.reduceEq, reduceCtorEq, cells6, hq, hm, l0, l1, l2, l3, l4, l5, lw, hd, zx, Nat.zero_add, e1, e2, List.length_map, e3, r1, r2, pub_cells6] <;> exact hbr _
      · have r1 : (((f.names.length : Nat) : Int) = 0) = False := by simp only [eq_iff_iff, iff_false]; omega
        rw [decide_eq_false d1, Bool.false_and]
        rcases hx with ⟨rfl, e2⟩ | ⟨rfl, e2⟩ <;> simp only [c_pat_one, go_sem, W_cond2, WO_guard3, WE_guard3, WQ_guard3, KB_n, KB_x, Nat.reduceBEq, Nat.reduceAdd, Nat.reduceLT, Nat.reduceLeDiff, Nat.reduceEqDiff, reduceIte, Int.reduceEq, reduceCtorEq, cells6, hq, hm, l0, l1, l2, l3, l4, l5, lw, hd, zx, Nat.zero_add, e1, e2, List.length_map, e3, r1, pub_cells6] <;> exact hbr _
    · rw [hi] at hd
      rw [cond2_tt]
      have hkt : kn = true := by
        unfold FT.isDir at hi
        rw [hk] at hi
        cases kn
        · cases hi
        · rfl
      subst hkt
      have hnl := ho.nlen
      simp only [c_pat_one, go_sem, W_cond2, WO_guard3, WE_guard3, WQ_guard3, KB_n, KB_x, Nat.reduceBEq, Nat.reduceAdd, Nat.reduceLT, Nat.reduceLeDiff, Nat.reduceEqDiff, reduceIte, Int.reduceEq, reduceCtorEq, cells6, hq, hm, l0, l1, l2, l3, l4, l5, lw, hd, zx, Nat.zero_add, e1, List.length_map, e3, pub_cells6]
      refine W_loop (fun x e q' => ∃ i : Nat, i + x = f.names.length ∧ q' = q ∧ ascN none (f.names.take i) = true ∧ e.get 1 = .p m 0 ∧ e.get 47 = tx f.names ∧ e.get 48 = .i .i64 (f.names.length : Nat) ∧ e.get 49 = .i .i64 (i : Nat)) ?_ f.names.length _ _ ?_
      · rintro x e q' ⟨i, hix, rfl, hac, g1, g47, g48, g49⟩
        by_cases h : i < f.names.length
        · have h1 : ((i : Int) < (f.names.length : Int)) = True := by simp only [eq_iff_iff, iff_true]; omega
          obtain ⟨y, hy⟩ : ∃ y, f.names[i]? = some y := ⟨_, List.getElem?_eq_getElem h⟩
          have hy2 : (f.names.map AV.s)[i]? = some (.s y) := by rw [List.getElem?_map, hy]; rfl
          have hym : y ∈ f.names := List.mem_of_getElem? hy
          have hnm := name_ok y (ho.names y hym).1 q' H1.wf
          have hw1 := wrap_succ (show i + 1 < 2 ^ 63 by omega)
          have htk : f.names.take (i + 1) = f.names.take i ++ [y] := by rw [List.take_add_one, hy]; rfl
          have hsn := ascN_snoc none (f.names.take i) y
          rw [← htk, hac, Bool.true_and] at hsn
          have hno : ascN none (f.names.take (i + 1)) = false → ascN none f.names = false := fun hf => by
            rw [Bool.eq_false_iff]
            intro ht
            rw [ascN_take none f.names (i + 1) ht] at hf
            cases hf
          cases hn1 : nameP y with
          | false =>
            rw [hn1] at hnm hsn
            rw [hno hsn, Bool.false_and]
            simp only [go_sem, W_cond2, WO_guard3, WE_guard3, WQ_guard3, KB_n, KB_x, Nat.reduceBEq, Nat.reduceAdd, Nat.reduceLT, Nat.reduceLeDiff, Nat.reduceEqDiff, reduceIte, Int.reduceEq, reduceCtorEq, g1, g47, g48, g49, h1, natOf_nat, hy2, cells_s, ldA_1, hnm]
            exact hbr _
          | true =>
            rw [hn1] at hnm hsn
            cases i with
            | zero =>
              have h2 : ((0 : Int) < ((0 : Nat) : Int)) = False := by simp
              have hsn : ascN none (f.names.take (0 + 1)) = true := by rw [hsn]; simp
              simp only [go_sem, W_cond2, WO_guard3, WE_guard3, WQ_guard3, KB_n, KB_x, Nat.reduceBEq, Nat.reduceAdd, Nat.reduceLT, Nat.reduceLeDiff, Nat.reduceEqDiff, reduceIte, Int.reduceEq, reduceCtorEq, g1, g47, g48, g49, h1, natOf_nat, hy2, cells_s, ldA_1, hnm, h2, hw1]
              exact ⟨x - 1, by omega, 0 + 1, by omega, hsn, rfl⟩
            | succ i =>
              have h2 : ((0 : Int) < ((i + 1 : Nat) : Int)) = True := by simp only [eq_iff_iff, iff_true]; omega
              obtain ⟨z, hz⟩ : ∃ z, f.names[i]? = some z := ⟨_, List.getElem?_eq_getElem (by omega)⟩
              have hz2 : (f.names.map AV.s)[i]? = some (.s z) := by rw [List.getElem?_map, hz]; rfl
              have hsb : IntKind.i64.wrap (((i + 1 : Nat) : Int) - 1) = (i : Int) := by
                rw [show ((i + 1 : Nat) : Int) - 1 = (i : Int) by omega]; exact wrap_nat (by omega)
              rw [getLast_take' hz] at hsn
              have hsn : ascN none (f.names.take (i + 1 + 1)) = ltN z y := by rw [hsn]; simp
              have hle : (ltN y z || beqN y z) = !ltN z y := ltN_total y z
              cases hzy : ltN z y with
              | false =>
                rw [hzy] at hle hsn
                rw [hno hsn, Bool.false_and]
                simp only [go_sem, W_cond2, WO_guard3, WE_guard3, WQ_guard3, KB_n, KB_x, Nat.reduceBEq, Nat.reduceAdd, Nat.reduceLT, Nat.reduceLeDiff, Nat.reduceEqDiff, reduceIte, Int.reduceEq, reduceCtorEq, g1, g47, g48, g49, h1, natOf_nat, hy2, cells_s, ldA_1, hnm, h2, l2, hsb, hz2, bs_leq, hle, Nat.zero_add]
                exact hbr _
              | true =>
                rw [hzy] at hle hsn
                simp only [go_sem, W_cond2, WO_guard3, WE_guard3, WQ_guard3, KB_n, KB_x, Nat.reduceBEq, Nat.reduceAdd, Nat.reduceLT, Nat.reduceLeDiff, Nat.reduceEqDiff, reduceIte, Int.reduceEq, reduceCtorEq, g1, g47, g48, g49, h1, natOf_nat, hy2, cells_s, ldA_1, hnm, h2, l2, hsb, hz2, bs_leq, hle, Nat.zero_add, hw1]
                exact ⟨x - 1, by omega, i + 1 + 1, by omega, hsn, rfl⟩
        · have h1 : ((i : Int) < (f.names.length : Int)) = False := by simp only [eq_iff_iff, iff_false]; omega
          rw [List.take_of_length_le (by omega)] at hac
          rw [hac, Bool.true_and]
          unfold FT.restB
          by_cases d1 : f.rest = 2
          · have r1 : (f.rest = 2) = True := by simp [d1]
            rw [if_pos d1]
            by_cases d2 : 0 ≤ f.beside
            · have r2 : ((0 : Int) ≤ f.beside) = True := by simp [d2]
              rw [decide_eq_true d2, Bool.true_and]
              simp only [go_sem, W_cond2, WO_guard3, WE_guard3, WQ_guard3, KB_n, KB_x, Nat.reduceBEq, Nat.reduceAdd, Nat.reduceLT, Nat.reduceLeDiff, Nat.reduceEqDiff, reduceIte, Int.reduceEq, reduceCtorEq, g1, g47, g48, g49, h1, l2, l4, l5, List.length_map, Nat.zero_add, r1, r2]
              exact hbr _
            · have r2 : ((0 : Int) ≤ f.beside) = False := by simp [d2]
              rw [decide_eq_false d2, Bool.false_and]
              simp only [go_sem, W_cond2, WO_guard3, WE_guard3, WQ_guard3, KB_n, KB_x, Nat.reduceBEq, Nat.reduceAdd, Nat.reduceLT, Nat.reduceLeDiff, Nat.reduceEqDiff, reduceIte, Int.reduceEq, reduceCtorEq, g1, g47, g48, g49, h1, l2, l4, l5, List.length_map, Nat.zero_add, r1, r2]
              exact hbr _
          · have r1 : (f.rest = 2) = False := by simp [d1]
            rw [if_neg d1]
            by_cases d3 : f.rest = 0
            · have r3 : (f.rest = 0) = True := by simp [d3]
              rw [decide_eq_true d3, Bool.true_or, Bool.true_and]
              simp only [go_sem, W_cond2, WO_guard3, WE_guard3, WQ_guard3, KB_n, KB_x, Nat.reduceBEq, Nat.reduceAdd, Nat.reduceLT, Nat.reduceLeDiff, Nat.reduceEqDiff, reduceIte, Int.reduceEq, reduceCtorEq, g1, g47, g48, g49, h1, l2, l4, l5, List.length_map, Nat.zero_add, r1, r3]
              exact hbr _
            · have r3 : (f.rest = 0) = False := by simp [d3]
              rw [decide_eq_false d3, Bool.false_or]
              by_cases d4 : f.rest = 1
              · have r4 : (f.rest = 1) = True := by simp [d4]
                rw [decide_eq_true d4, Bool.true_and]
                simp only [go_sem, W_cond2, WO_guard3, WE_guard3, WQ_guard3, KB_n, KB_x, Nat.reduceBEq, Nat.reduceAdd, Nat.reduceLT, Nat.reduceLeDiff, Nat.reduceEqDiff, reduceIte, Int.reduceEq, reduceCtorEq, g1, g47, g48, g49, h1, l2, l4, l5, List.length_map, Nat.zero_add, r1, r3, r4]
                exact hbr _
              · have r4 : (f.rest = 1) = False := by simp [d4]
                rw [decide_eq_false d4, Bool.false_and]
                simp only [go_sem, W_cond2, WO_guard3, WE_guard3, WQ_guard3, KB_n, KB_x, Nat.reduceBEq, Nat.reduceAdd, Nat.reduceLT, Nat.reduceLeDiff, Nat.reduceEqDiff, reduceIte, Int.reduceEq, reduceCtorEq, g1, g47, g48, g49, h1, l2, l4, l5, List.length_map, Nat.zero_add, r1, r3, r4]
                exact hbr _
      · simp only [go_sem, W_cond2, WO_guard3, WE_guard3, WQ_guard3, KB_n, KB_x, Nat.reduceBEq, Nat.reduceAdd, Nat.reduceLT, Nat.reduceLeDiff, Nat.reduceEqDiff, reduceIte, Int.reduceEq, reduceCtorEq]
        exact ⟨0, by omega, by simp [ascN], rfl⟩
  · have hkn : f.names.length = (f.names.map AV.s).length := by simp
    unfold FT.bad at hb
    by_cases a1 : 3 < f.kind
    · have e1 : ((3 : Int) < (f.kind : Int)) = True := by simp only [eq_iff_iff, iff_true]; omega
      simp only [c_pat_one, go_sem, W_cond2, WO_guard3, WE_guard3, WQ_guard3, KB_n, KB_x, Nat.reduceBEq, Nat.reduceAdd, Nat.reduceLT, Nat.reduceLeDiff, Nat.reduceEqDiff, reduceIte, Int.reduceEq, reduceCtorEq, cells6, hq, hm, l0, l1, l2, l3, l4, l5, Nat.zero_add, e1, Bool.not_true, Bool.false_and]
      exact hbr _
    · have e1 : ((3 : Int) < (f.kind : Int)) = False := by simp only [eq_iff_iff, iff_false]; omega
      rw [decide_eq_false a1, Bool.false_or] at hb
      cases hk : f.known
      · rw [hk] at l0 hb
        by_cases a2 : f.kind = 0
        · have e2 : ((f.kind : Int) ≠ 0) = False := by simp [a2]
          have hb : f.names.length ≠ f.kids.length := by simpa [a2] using hb
          have e3 : ((f.names.length : Int) ≠ (f.kids.length : Int)) = True := by simp only [ne_eq, eq_iff_iff, iff_true]; omega
          simp only [c_pat_one, go_sem, W_cond2, WO_guard3, WE_guard3, WQ_guard3, KB_n, KB_x, Nat.reduceBEq, Nat.reduceAdd, Nat.reduceLT, Nat.reduceLeDiff, Nat.reduceEqDiff, reduceIte, Int.reduceEq, reduceCtorEq, cells6, hq, hm, l0, l1, l2, l3, l4, l5, zx, Nat.zero_add, e1, e2, List.length_map, e3, Bool.not_true, Bool.false_and]
          exact hbr _
        · have e2 : ((f.kind : Int) ≠ 0) = True := by simp [a2]
          simp only [c_pat_one, go_sem, W_cond2, WO_guard3, WE_guard3, WQ_guard3, KB_n, KB_x, Nat.reduceBEq, Nat.reduceAdd, Nat.reduceLT, Nat.reduceLeDiff, Nat.reduceEqDiff, reduceIte, Int.reduceEq, reduceCtorEq, cells6, hq, hm, l0, l1, l2, l3, l4, l5, Nat.zero_add, e1, e2, Bool.not_true, Bool.false_and]
          exact hbr _
      · rw [hk] at l0 hb
        have hb : f.names.length ≠ f.kids.length := by simpa using hb
        have e3 : ((f.names.length : Int) ≠ (f.kids.length : Int)) = True := by simp only [ne_eq, eq_iff_iff, iff_true]; omega
        simp only [c_pat_one, go_sem, W_cond2, WO_guard3, WE_guard3, WQ_guard3, KB_n, KB_x, Nat.reduceBEq, Nat.reduceAdd, Nat.reduceLT, Nat.reduceLeDiff, Nat.reduceEqDiff, reduceIte, Int.reduceEq, reduceCtorEq, cells6, hq, hm, l0, l1, l2, l3, l4, l5, zx, Nat.zero_add, e1, List.length_map, e3, Bool.not_true, Bool.false_and]
        exact hbr _
end Go.Proofs.Ytgloinighjdhlaa

/-
  The document's one.
-/
set_option maxRecDepth 100000
set_option maxHeartbeats 4000000
set_option linter.unusedSimpArgs false
set_option linter.constructorNameAsVariable false
namespace Go.Proofs.Ytgloinighjdhlaa
open Go.Proofs.Ytgloinighjdhlaa.Am
attribute [local irreducible] W WO WE WQ WD Tr.get Tr.set
theorem ref20one_ok (f : FT) (ho : f.Ok) (s : St) (hw : Wf s) : (lim prog).call f_touchstoneref20_one [.agg f.cells] s = some (.b f.one, s) := by
  refine fn_W p_touchstoneref20_one rfl rfl ?_
  have H1 := (Hp.begin hw).new (.cells 60 f.cells)
  generalize hq : s.enter.new (.cells 60 f.cells) = q at H1
  generalize hm : s.enter.nb = m at H1
  have l0 := H1.ld 0 (off := 0) (v := .b f.known) rfl rfl
  have l1 := H1.ld 0 (off := 1) (v := .i .u8 (f.kind : Nat)) rfl rfl
  have l2 := H1.ld 0 (off := 2) (v := tx f.names) rfl rfl
  have l3 := H1.ld 0 (off := 3) (v := zx f.kids) rfl rfl
  have l4 := H1.ld 0 (off := 4) (v := .i .i64 f.rest) rfl rfl
  have l5 := H1.ld 0 (off := 5) (v := .i .i64 f.beside) rfl rfl
  have lw := H1.ldw (m := 6) 0 rfl rfl
  have hz0 : wkZ c_touchstoneref20_one.cin [.agg f.cells] = [.agg f.cells] := by simp [c_touchstoneref20_one, wkZ, wk, FT.cells, zx]
  rw [hz0]
  have hbr : ∀ b, KR s [.id] (.b b) (some ([.b b], q)) := fun b => KR_some H1.over rfl rfl
  have hd := ref20dir_ok f q H1.wf
  unfold FT.one
  cases hb : f.bad
  · have hnb : ¬ (3 < f.kind) ∧ ((!f.known && decide (f.kind ≠ 0)) = false) ∧ f.names.length = f.kids.length := by
      unfold FT.bad at hb
      simp only [Bool.or_eq_false_iff, decide_eq_false_iff_not, Decidable.not_not] at hb
      exact ⟨hb.1, hb.2.1, by simpa using hb.2.2⟩
    obtain ⟨a1, a2, a3⟩ := hnb
    have e1 : ((3 : Int) < (f.kind : Int)) = False := by simp only [eq_iff_iff, iff_false]; omega
    have e3 : ((f.names.length : Int) ≠ (f.kids.length : Int)) = False := by simp only [ne_eq, eq_iff_iff, iff_false]; omega
    have hx : ∃ kn : Bool, f.known = kn ∧ ((kn = false ∧ ((f.kind : Int) ≠ 0) = False) ∨ (kn = true ∧ (True = True))) := by
      cases hk : f.known
      · rw [hk] at a2
        exact ⟨_, rfl, .inl ⟨rfl, by simpa using a2⟩⟩
      · exact ⟨_, rfl, .inr ⟨rfl, rfl⟩⟩
    obtain ⟨kn, hk, hx⟩ := hx
    rw [hk] at l0
    rw [Bool.not_false, Bool.true_and]
    cases hi : f.isDir
    · rw [hi] at hd
      rw [cond2_ff]
      by_cases d1 : f.names.length = 0
      · have r1 : (((f.names.length : Nat) : Int) = 0) = True := by simp [d1]
        by_cases d2 : f.rest = 0
        · have r2 : (f.rest = 0) = True := by simp [d2]
          rw [decide_eq_true d1, decide_eq_true d2, Bool.true_and, Bool.true_and]
          rcases hx with ⟨rfl, e2⟩ | ⟨rfl, e2⟩ <;> simp only [c_touchstoneref20_one, go_sem, W_cond2, WO_guard3, WE_guard3, WQ_guard3, KB_n, KB_x, Nat.reduceBEq, Nat.reduceAdd, Nat.reduceLT, Nat.reduceLeDiff, Nat.reduceEqDiff, reduceIte, Int.reduceEq, reduceCtorEq, cells6, hq, hm, l0, l1, l2, l3, l4, l5, lw, hd, zx, Nat.zero_add, e1, e2, List.length_map, e3, r1, r2, pub_cells6] <;> exact hbr _
        · have r2 : (f.rest = 0) = False := by simp [d2]
          rw [decide_eq_true d1, decide_eq_false d2, Bool.false_and, Bool.and_false]
          rcases hx with ⟨rfl, e2⟩ | ⟨rfl, e2⟩ <;> simp only [c_touchstoneref20_one, go_sem, W_cond2, WO_guard3, WE_guard3, WQ_guard3, KB_n, KB_x, Nat.reduceBEq, Nat.reduceAdd, Nat.reduceLT, Nat.reduceLeDiff, Nat.reduceEqDiff, reduceIte, Int.reduceEq, reduceCtorEq, cells6, hq, hm, l0, l1, l2, l3, l4, l5, lw, hd, zx, Nat.zero_add, e1, e2, List.length_map, e3, r1, r2, pub_cells6] <;> exact hbr _
      · have r1 : (((f.names.length : Nat) : Int) = 0) = False := by simp only [eq_iff_iff, iff_false]; omega
        rw [decide_eq_false d1, Bool.false_and]
        rcases hx with ⟨rfl, e2⟩ | ⟨rfl, e2⟩ <;> simp only [c_touchstoneref20_one, go_sem, W_cond2, WO_guard3, WE_guard3, WQ_guard3, KB_n, KB_x, Nat.reduceBEq, Nat.reduceAdd, Nat.reduceLT, Nat.reduceLeDiff, Nat.reduceEqDiff, reduceIte, Int.reduceEq, reduceCtorEq, cells6, hq, hm, l0, l1, l2, l3, l4, l5, lw, hd, zx, Nat.zero_add, e1, e2, List.length_map, e3, r1, pub_cells6] <;> exact hbr _
    · rw [hi] at hd
      rw [cond2_tt]
      have hkt : kn = true := by
        unfold FT.isDir at hi
        rw [hk] at hi
        cases kn
        · cases hi
        · rfl
      subst hkt
      have hnl := ho.nlen
      simp only [c_touchstoneref20_one, go_sem, W_cond2, WO_guard3, WE_guard3, WQ_guard3, KB_n, KB_x, Nat.reduceBEq, Nat.reduceAdd, Nat.reduceLT, Nat.reduceLeDiff, Nat.reduceEqDiff, reduceIte, Int.reduceEq, reduceCtorEq, cells6, hq, hm, l0, l1, l2, l3, l4, l5, lw, hd, zx, Nat.zero_add, e1, List.length_map, e3, pub_cells6]
      refine W_loop (fun x e q' => ∃ i : Nat, i + x = f.names.length ∧ q' = q ∧ ascN none (f.names.take i) = true ∧ e.get 1 = .p m 0 ∧ e.get 3 = .i .i64 (i : Nat)) ?_ f.names.length _ _ ?_
      · rintro x e q' ⟨i, hix, rfl, hac, g1, g3⟩
        by_cases h : i < f.names.length
        · have h1 : ((i : Int) < (f.names.length : Int)) = True := by simp only [eq_iff_iff, iff_true]; omega
          obtain ⟨y, hy⟩ : ∃ y, f.names[i]? = some y := ⟨_, List.getElem?_eq_getElem h⟩
          have hy2 : (f.names.map AV.s)[i]? = some (.s y) := by rw [List.getElem?_map, hy]; rfl
          have hym : y ∈ f.names := List.mem_of_getElem? hy
          have hnm := refName_ok y (by have := (ho.names y hym).2; omega) q'
          have hw1 := wrap_succ (show i + 1 < 2 ^ 63 by omega)
          have htk : f.names.take (i + 1) = f.names.take i ++ [y] := by rw [List.take_add_one, hy]; rfl
          have hsn := ascN_snoc none (f.names.take i) y
          rw [← htk, hac, Bool.true_and] at hsn
          have hno : ascN none (f.names.take (i + 1)) = false → ascN none f.names = false := fun hf => by
            rw [Bool.eq_false_iff]
            intro ht
            rw [ascN_take none f.names (i + 1) ht] at hf
            cases hf
          cases hn1 : nameP y with
          | false =>
            rw [hn1] at hnm hsn
            rw [hno hsn, Bool.false_and]
            simp only [go_sem, W_cond2, WO_guard3, WE_guard3, WQ_guard3, KB_n, KB_x, Nat.reduceBEq, Nat.reduceAdd, Nat.reduceLT, Nat.reduceLeDiff, Nat.reduceEqDiff, reduceIte, Int.reduceEq, reduceCtorEq, g1, g3, l2, List.length_map, Nat.zero_add, h1, natOf_nat, hy2, cells_s, ldA_1, hnm]
            exact hbr _
          | true =>
            rw [hn1] at hnm hsn
            cases i with
            | zero =>
              have h2 : ((0 : Int) < ((0 : Nat) : Int)) = False := by simp
              have hsn : ascN none (f.names.take (0 + 1)) = true := by rw [hsn]; simp
              simp only [go_sem, W_cond2, WO_guard3, WE_guard3, WQ_guard3, KB_n, KB_x, Nat.reduceBEq, Nat.reduceAdd, Nat.reduceLT, Nat.reduceLeDiff, Nat.reduceEqDiff, reduceIte, Int.reduceEq, reduceCtorEq, g1, g3, l2, List.length_map, Nat.zero_add, h1, natOf_nat, hy2, cells_s, ldA_1, hnm, h2, hw1]
              exact ⟨x - 1, by omega, 0 + 1, by omega, hsn, rfl⟩
            | succ i =>
              have h2 : ((0 : Int) < ((i + 1 : Nat) : Int)) = True := by simp only [eq_iff_iff, iff_true]; omega
              obtain ⟨z, hz⟩ : ∃ z, f.names[i]? = some z := ⟨_, List.getElem?_eq_getElem (by omega)⟩
              have hz2 : (f.names.map AV.s)[i]? = some (.s z) := by rw [List.getElem?_map, hz]; rfl
              have hsb : IntKind.i64.wrap (((i + 1 : Nat) : Int) - 1) = (i : Int) := by
                rw [show ((i + 1 : Nat) : Int) - 1 = (i : Int) by omega]; exact wrap_nat (by omega)
              rw [getLast_take' hz] at hsn
              have hsn : ascN none (f.names.take (i + 1 + 1)) = ltN z y := by rw [hsn]; simp
              have hle : (ltN y z || beqN y z) = !ltN z y := ltN_total y z
              cases hzy : ltN z y with
              | false =>
                rw [hzy] at hle hsn
                rw [hno hsn, Bool.false_and]
                simp only [go_sem, W_cond2, WO_guard3, WE_guard3, WQ_guard3, KB_n, KB_x, Nat.reduceBEq, Nat.reduceAdd, Nat.reduceLT, Nat.reduceLeDiff, Nat.reduceEqDiff, reduceIte, Int.reduceEq, reduceCtorEq, g1, g3, l2, List.length_map, Nat.zero_add, h1, natOf_nat, hy2, cells_s, ldA_1, hnm, h2, hsb, hz2, bs_leq, hle, Nat.zero_add]
                exact hbr _
              | true =>
                rw [hzy] at hle hsn
                simp only [go_sem, W_cond2, WO_guard3, WE_guard3, WQ_guard3, KB_n, KB_x, Nat.reduceBEq, Nat.reduceAdd, Nat.reduceLT, Nat.reduceLeDiff, Nat.reduceEqDiff, reduceIte, Int.reduceEq, reduceCtorEq, g1, g3, l2, List.length_map, Nat.zero_add, h1, natOf_nat, hy2, cells_s, ldA_1, hnm, h2, hsb, hz2, bs_leq, hle, Nat.zero_add, hw1]
                exact ⟨x - 1, by omega, i + 1 + 1, by omega, hsn, rfl⟩
        · have h1 : ((i : Int) < (f.names.length : Int)) = False := by simp only [eq_iff_iff, iff_false]; omega
          rw [List.take_of_length_le (by omega)] at hac
          rw [hac, Bool.true_and]
          unfold FT.restB
          by_cases d1 : f.rest = 2
          · have r1 : (f.rest = 2) = True := by simp [d1]
            rw [if_pos d1]
            by_cases d2 : 0 ≤ f.beside
            · have r2 : ((0 : Int) ≤ f.beside) = True := by simp [d2]
              rw [decide_eq_true d2, Bool.true_and]
              simp only [go_sem, W_cond2, WO_guard3, WE_guard3, WQ_guard3, KB_n, KB_x, Nat.reduceBEq, Nat.reduceAdd, Nat.reduceLT, Nat.reduceLeDiff, Nat.reduceEqDiff, reduceIte, Int.reduceEq, reduceCtorEq, g1, g3, h1, l2, l4, l5, List.length_map, Nat.zero_add, r1, r2]
              exact hbr _
            · have r2 : ((0 : Int) ≤ f.beside) = False := by simp [d2]
              rw [decide_eq_false d2, Bool.false_and]
              simp only [go_sem, W_cond2, WO_guard3, WE_guard3, WQ_guard3, KB_n, KB_x, Nat.reduceBEq, Nat.reduceAdd, Nat.reduceLT, Nat.reduceLeDiff, Nat.reduceEqDiff, reduceIte, Int.reduceEq, reduceCtorEq, g1, g3, h1, l2, l4, l5, List.length_map, Nat.zero_add, r1, r2]
              exact hbr _
          · have r1 : (f.rest = 2) = False := by simp [d1]
            rw [if_neg d1]
            by_cases d3 : f.rest = 0
            · have r3 : (f.rest = 0) = True := by simp [d3]
              rw [decide_eq_true d3, Bool.true_or, Bool.true_and]
              simp only [go_sem, W_cond2, WO_guard3, WE_guard3, WQ_guard3, KB_n, KB_x, Nat.reduceBEq, Nat.reduceAdd, Nat.reduceLT, Nat.reduceLeDiff, Nat.reduceEqDiff, reduceIte, Int.reduceEq, reduceCtorEq, g1, g3, h1, l2, l4, l5, List.length_map, Nat.zero_add, r1, r3]
              exact hbr _
            · have r3 : (f.rest = 0) = False := by simp [d3]
              rw [decide_eq_false d3, Bool.false_or]
              by_cases d4 : f.rest = 1
              · have r4 : (f.rest = 1) = True := by simp [d4]
                rw [decide_eq_true d4, Bool.true_and]
                simp only [go_sem, W_cond2, WO_guard3, WE_guard3, WQ_guard3, KB_n, KB_x, Nat.reduceBEq, Nat.reduceAdd, Nat.reduceLT, Nat.reduceLeDiff, Nat.reduceEqDiff, reduceIte, Int.reduceEq, reduceCtorEq, g1, g3, h1, l2, l4, l5, List.length_map, Nat.zero_add, r1, r3, r4]
                exact hbr _
              · have r4 : (f.rest = 1) = False := by simp [d4]
                rw [decide_eq_false d4, Bool.false_and]
                simp only [go_sem, W_cond2, WO_guard3, WE_guard3, WQ_guard3, KB_n, KB_x, Nat.reduceBEq, Nat.reduceAdd, Nat.reduceLT, Nat.reduceLeDiff, Nat.reduceEqDiff, reduceIte, Int.reduceEq, reduceCtorEq, g1, g3, h1, l2, l4, l5, List.length_map, Nat.zero_add, r1, r3, r4]
                exact hbr _
      · simp only [go_sem, W_cond2, WO_guard3, WE_guard3, WQ_guard3, KB_n, KB_x, Nat.reduceBEq, Nat.reduceAdd, Nat.reduceLT, Nat.reduceLeDiff, Nat.reduceEqDiff, reduceIte, Int.reduceEq, reduceCtorEq]
        exact ⟨0, by omega, by simp [ascN], rfl⟩
  · have hkn : f.names.length = (f.names.map AV.s).length := by simp
    unfold FT.bad at hb
    by_cases a1 : 3 < f.kind
    · have e1 : ((3 : Int) < (f.kind : Int)) = True := by simp only [eq_iff_iff, iff_true]; omega
      simp only [c_touchstoneref20_one, go_sem, W_cond2, WO_guard3, WE_guard3, WQ_guard3, KB_n, KB_x, Nat.reduceBEq, Nat.reduceAdd, Nat.reduceLT, Nat.reduceLeDiff, Nat.reduceEqDiff, reduceIte, Int.reduceEq, reduceCtorEq, cells6, hq, hm, l0, l1, l2, l3, l4, l5, Nat.zero_add, e1, Bool.not_true, Bool.false_and]
      exact hbr _
    · have e1 : ((3 : Int) < (f.kind : Int)) = False := by simp only [eq_iff_iff, iff_false]; omega
      rw [decide_eq_false a1, Bool.false_or] at hb
      cases hk : f.known
      · rw [hk] at l0 hb
        by_cases a2 : f.kind = 0
        · have e2 : ((f.kind : Int) ≠ 0) = False := by simp [a2]
          have hb : f.names.length ≠ f.kids.length := by simpa [a2] using hb
          have e3 : ((f.names.length : Int) ≠ (f.kids.length : Int)) = True := by simp only [ne_eq, eq_iff_iff, iff_true]; omega
          simp only [c_touchstoneref20_one, go_sem, W_cond2, WO_guard3, WE_guard3, WQ_guard3, KB_n, KB_x, Nat.reduceBEq, Nat.reduceAdd, Nat.reduceLT, Nat.reduceLeDiff, Nat.reduceEqDiff, reduceIte, Int.reduceEq, reduceCtorEq, cells6, hq, hm, l0, l1, l2, l3, l4, l5, zx, Nat.zero_add, e1, e2, List.length_map, e3, Bool.not_true, Bool.false_and]
          exact hbr _
        · have e2 : ((f.kind : Int) ≠ 0) = True := by simp [a2]
          simp only [c_touchstoneref20_one, go_sem, W_cond2, WO_guard3, WE_guard3, WQ_guard3, KB_n, KB_x, Nat.reduceBEq, Nat.reduceAdd, Nat.reduceLT, Nat.reduceLeDiff, Nat.reduceEqDiff, reduceIte, Int.reduceEq, reduceCtorEq, cells6, hq, hm, l0, l1, l2, l3, l4, l5, Nat.zero_add, e1, e2, Bool.not_true, Bool.false_and]
          exact hbr _
      · rw [hk] at l0 hb
        have hb : f.names.length ≠ f.kids.length := by simpa using hb
        have e3 : ((f.names.length : Int) ≠ (f.kids.length : Int)) = True := by simp only [ne_eq, eq_iff_iff, iff_true]; omega
        simp only [c_touchstoneref20_one, go_sem, W_cond2, WO_guard3, WE_guard3, WQ_guard3, KB_n, KB_x, Nat.reduceBEq, Nat.reduceAdd, Nat.reduceLT, Nat.reduceLeDiff, Nat.reduceEqDiff, reduceIte, Int.reduceEq, reduceCtorEq, cells6, hq, hm, l0, l1, l2, l3, l4, l5, zx, Nat.zero_add, e1, List.length_map, e3, Bool.not_true, Bool.false_and]
        exact hbr _
end Go.Proofs.Ytgloinighjdhlaa

/-
  slices.ContainsFunc of numbers: of a slice that was told, and of a part of a row.
-/
set_option maxRecDepth 100000
set_option maxHeartbeats 2000000
set_option linter.unusedSimpArgs false
set_option linter.constructorNameAsVariable false
namespace Go.Proofs.Ytgloinighjdhlaa
open Go.Proofs.Ytgloinighjdhlaa.Am
attribute [local irreducible] W WO WE WQ WD Tr.get Tr.set
def idxFI (P : Int → Bool) (L : List Int) : Int := match L.findIdx? P with
  | some i => (i : Int)
  | none => -1
theorem idxFI_any (P : Int → Bool) (L : List Int) : (0 ≤ idxFI P L) = (L.any P = true) := by
  unfold idxFI
  cases h : L.findIdx? P with
  | none =>
    rw [List.findIdx?_eq_none_iff] at h
    simp only [eq_iff_iff, List.any_eq_true]
    constructor
    · intro hh; simp at hh
    · rintro ⟨x, hx, hp⟩; rw [h x hx] at hp; cases hp
  | some i =>
    rw [List.findIdx?_eq_some_iff_getElem] at h
    obtain ⟨h1, h2, _⟩ := h
    simp only [eq_iff_iff, List.any_eq_true]
    exact ⟨fun _ => ⟨L[i], List.getElem_mem h1, h2⟩, fun _ => by omega⟩
theorem idxFI_at {P : Int → Bool} {L : List Int} {i : Nat} {z : Int} (h : L[i]? = some z) (hz : P z = true) (hb : ∀ j, j < i → ∀ y, L[j]? = some y → P y = false) : idxFI P L = (i : Int) := by
  have : L.findIdx? P = some i := by
    rw [List.findIdx?_eq_some_iff_getElem]
    obtain ⟨h1, h2⟩ := List.getElem?_eq_some_iff.1 h
    refine ⟨h1, by rw [h2]; exact hz, fun j hj => ?_⟩
    rw [hb j hj L[j] (List.getElem?_eq_getElem (by omega))]
    simp
  unfold idxFI
  rw [this]
theorem idxFI_no {P : Int → Bool} {L : List Int} (hb : ∀ j, j < L.length → ∀ y, L[j]? = some y → P y = false) : idxFI P L = -1 := by
  have : L.findIdx? P = none := by
    rw [List.findIdx?_eq_none_iff]
    intro x hx
    obtain ⟨j, hj, rfl⟩ := List.mem_iff_getElem.1 hx
    exact hb j hj _ (List.getElem?_eq_getElem hj)
  unfold idxFI
  rw [this]
theorem iv_get {L : List Int} {i : Nat} {z : Int} (h : L[i]? = some z) : (L.map iv)[i]? = some (.i .i64 z) := by
  rw [List.getElem?_map, h]; rfl
theorem cells_iv (z : Int) : (AV.i .i64 z).cells = [.i .i64 z] := rfl
theorem over_box {s q : St} (h : Over s q) {id : Nat} (hid : id < s.nb) : q.box? id = s.box? id := by
  have h1 := h.nb
  have e1 : Nat.blt id q.nb = true := by rw [Nat.blt_eq]; omega
  have e2 : Nat.blt id s.nb = true := by rw [Nat.blt_eq]; exact hid
  simp only [St.box?, e1, e2, cond_true, ← h.boxes, List.getElem?_drop]
  congr 1
  omega
theorem ld1_old {s q : St} (h : Over s q) {id T off : Nat} {cs : List AV} {v : AV} (hid : id < s.nb) (hb : s.box? id = some (.cells T cs)) (hc : cs[off]? = some v) : ldA q false 1 (.p id off) = some v :=
  ld_box (by rw [over_box h hid]; exact hb) hc
theorem indexFunc_ok (L : List Int) (hL : L.length < 2 ^ 62) (g : Nat) (caps : List AV) (P : Int → Bool) (s : St) (hw : Wf s) (hP : ∀ z ∈ L, callV (lim prog) (.fn g caps) [.i .i64 z] s.enter = some (.b (P z), s.enter)) :
    (lim prog).call f_slices_IndexFunc_int_int [zx L, .fn g caps] s = some (.i .i64 (idxFI P L), s) := by
  refine fn_W p_slices_IndexFunc_int_int rfl rfl ?_
  have hz0 : wkZ c_slices_IndexFunc_int_int.cin [zx L, .fn g caps] = [zx L, .fn g caps] := by simp [c_slices_IndexFunc_int_int, wkZ, wk, zx, wkM_i]
  rw [hz0]
  simp only [c_slices_IndexFunc_int_int, go_sem, W_cond2, WO_guard3, WE_guard3, WQ_guard3, KB_n, KB_x, Nat.reduceBEq, Nat.reduceAdd, Nat.reduceLT, Nat.reduceLeDiff, Nat.reduceEqDiff, reduceIte, Int.reduceEq, reduceCtorEq, zx, List.length_map]
  refine W_loop (fun x e q => ∃ i : Nat, i + x = L.length ∧ q = s.enter ∧ (∀ j, j < i → ∀ y, L[j]? = some y → P y = false) ∧ e.get 0 = zx L ∧ e.get 1 = .fn g caps ∧ e.get 7 = .i .i64 (L.length : Nat) ∧ e.get 8 = .i .i64 (i : Nat)) ?_ L.length _ _ ?_
  · rintro x e q ⟨i, hi, rfl, hb, g0, g1, g7, g8⟩
    by_cases h : i < L.length
    · have h1 : ((i : Int) < (L.length : Int)) = True := by simp only [eq_iff_iff, iff_true]; omega
      obtain ⟨z, hz⟩ : ∃ z, L[i]? = some z := ⟨_, List.getElem?_eq_getElem h⟩
      have hz2 := iv_get hz
      have hc := hP z (List.mem_of_getElem? hz)
      have hw1 := wrap_succ (show i + 1 < 2 ^ 63 by omega)
      cases hp : P z with
      | true =>
        rw [hp] at hc
        rw [idxFI_at hz hp hb]
        simp only [go_sem, W_cond2, WO_guard3, WE_guard3, WQ_guard3, KB_n, KB_x, Nat.reduceBEq, Nat.reduceAdd, Nat.reduceLT, Nat.reduceLeDiff, Nat.reduceEqDiff, reduceIte, Int.reduceEq, reduceCtorEq, g0, g1, g7, g8, zx, h1, natOf_nat, hz2, cells_iv, ldA_1, hc]
        exact KR_some (Over.enter s) rfl rfl
      | false =>
        rw [hp] at hc
        simp only [go_sem, W_cond2, WO_guard3, WE_guard3, WQ_guard3, KB_n, KB_x, Nat.reduceBEq, Nat.reduceAdd, Nat.reduceLT, Nat.reduceLeDiff, Nat.reduceEqDiff, reduceIte, Int.reduceEq, reduceCtorEq, g0, g1, g7, g8, zx, h1, natOf_nat, hz2, cells_iv, ldA_1, hc, hw1]
        refine ⟨x - 1, by omega, i + 1, by omega, fun j hj y hy => ?_, rfl⟩
        rcases Nat.lt_or_ge j i with hlt | hge
        · exact hb j hlt y hy
        · obtain rfl : j = i := by omega
          rw [hz] at hy; cases hy; exact hp
    · have h1 : ((i : Int) < (L.length : Int)) = False := by simp only [eq_iff_iff, iff_false]; omega
      rw [idxFI_no fun j hj => hb j (by omega)]
      simp only [go_sem, W_cond2, WO_guard3, WE_guard3, WQ_guard3, KB_n, KB_x, Nat.reduceBEq, Nat.reduceAdd, Nat.reduceLT, Nat.reduceLeDiff, Nat.reduceEqDiff, reduceIte, Int.reduceEq, reduceCtorEq, g0, g1, g7, g8, h1]
      exact KR_some (Over.enter s) rfl rfl
  · simp only [go_sem, W_cond2, WO_guard3, WE_guard3, WQ_guard3, KB_n, KB_x, Nat.reduceBEq, Nat.reduceAdd, Nat.reduceLT, Nat.reduceLeDiff, Nat.reduceEqDiff, reduceIte, Int.reduceEq, reduceCtorEq]
    exact ⟨0, by omega, fun j hj => by omega, rfl, rfl⟩
theorem containsFunc_ok (L : List Int) (hL : L.length < 2 ^ 62) (g : Nat) (caps : List AV) (P : Int → Bool) (s : St) (hw : Wf s) (hP : ∀ z ∈ L, callV (lim prog) (.fn g caps) [.i .i64 z] s.enter = some (.b (P z), s.enter)) :
    (lim prog).call f_slices_ContainsFunc_int_int [zx L, .fn g caps] s = some (.b (L.any P), s) := by
  refine fn_W p_slices_ContainsFunc_int_int rfl rfl ?_
  have hz0 : wkZ c_slices_ContainsFunc_int_int.cin [zx L, .fn g caps] = [zx L, .fn g caps] := by simp [c_slices_ContainsFunc_int_int, wkZ, wk, zx, wkM_i]
  have h1 := indexFunc_ok L hL g caps P s.enter hw.enter hP
  rw [hz0]
  unfold zx at h1
  simp only [c_slices_ContainsFunc_int_int, go_sem, W_cond2, WO_guard3, WE_guard3, WQ_guard3, KB_n, KB_x, Nat.reduceBEq, Nat.reduceAdd, Nat.reduceLT, Nat.reduceLeDiff, Nat.reduceEqDiff, reduceIte, Int.reduceEq, reduceCtorEq, h1, zx, idxFI_any]
  exact KR_some (Over.enter s) rfl (by cases h : L.any P <;> rfl)
theorem indexFuncB_ok (L : List Int) (hL : L.length < 2 ^ 62) (g : Nat) (caps : List AV) (P : Int → Bool) (s : St) (hw : Wf s) {id off T : Nat} {p : Nat × Bool} {cs : List AV} (hid : id < s.nb) (hbx : s.box? id = some (.cells T cs)) (hcs : ∀ i z, L[i]? = some z → cs[off + i]? = some (.i .i64 z)) (hP : ∀ z ∈ L, callV (lim prog) (.fn g caps) [.i .i64 z] s.enter = some (.b (P z), s.enter)) :
    (lim prog).call f_slices_IndexFunc_int_int [AV.bl id 1 off L.length p, .fn g caps] s = some (.i .i64 (idxFI P L), s) := by
  refine fn_W p_slices_IndexFunc_int_int rfl rfl ?_
  have hz0 : wkZ c_slices_IndexFunc_int_int.cin [AV.bl id 1 off L.length p, .fn g caps] = [AV.bl id 1 off L.length p, .fn g caps] := by simp [c_slices_IndexFunc_int_int, wkZ, wk]
  rw [hz0]
  simp only [c_slices_IndexFunc_int_int, go_sem, W_cond2, WO_guard3, WE_guard3, WQ_guard3, KB_n, KB_x, Nat.reduceBEq, Nat.reduceAdd, Nat.reduceLT, Nat.reduceLeDiff, Nat.reduceEqDiff, reduceIte, Int.reduceEq, reduceCtorEq]
  refine W_loop (fun x e q => ∃ i : Nat, i + x = L.length ∧ q = s.enter ∧ (∀ j, j < i → ∀ y, L[j]? = some y → P y = false) ∧ e.get 0 = AV.bl id 1 off L.length p ∧ e.get 1 = .fn g caps ∧ e.get 7 = .i .i64 (L.length : Nat) ∧ e.get 8 = .i .i64 (i : Nat)) ?_ L.length _ _ ?_
  · rintro x e q ⟨i, hi, rfl, hb, g0, g1, g7, g8⟩
    by_cases h : i < L.length
    · have h1 : ((i : Int) < (L.length : Int)) = True := by simp only [eq_iff_iff, iff_true]; omega
      obtain ⟨z, hz⟩ : ∃ z, L[i]? = some z := ⟨_, List.getElem?_eq_getElem h⟩
      have hz2 := ld1_old (Over.enter s) (off := off + i) (v := .i .i64 z) hid hbx (hcs i z hz)
      have hlt : (i < L.length) = True := by simp [h]
      have hc := hP z (List.mem_of_getElem? hz)
      have hw1 := wrap_succ (show i + 1 < 2 ^ 63 by omega)
      cases hp : P z with
      | true =>
        rw [hp] at hc
        rw [idxFI_at hz hp hb]
        simp only [go_sem, W_cond2, WO_guard3, WE_guard3, WQ_guard3, KB_n, KB_x, Nat.reduceBEq, Nat.reduceAdd, Nat.reduceLT, Nat.reduceLeDiff, Nat.reduceEqDiff, reduceIte, Int.reduceEq, reduceCtorEq, g0, g1, g7, g8, h1, natOf_nat, hlt, Nat.mul_one, hz2, hc]
        exact KR_some (Over.enter s) rfl rfl
      | false =>
        rw [hp] at hc
        simp only [go_sem, W_cond2, WO_guard3, WE_guard3, WQ_guard3, KB_n, KB_x, Nat.reduceBEq, Nat.reduceAdd, Nat.reduceLT, Nat.reduceLeDiff, Nat.reduceEqDiff, reduceIte, Int.reduceEq, reduceCtorEq, g0, g1, g7, g8, h1, natOf_nat, hlt, Nat.mul_one, hz2, hc, hw1]
        refine ⟨x - 1, by omega, i + 1, by omega, fun j hj y hy => ?_, rfl⟩
        rcases Nat.lt_or_ge j i with hlt | hge
        · exact hb j hlt y hy
        · obtain rfl : j = i := by omega
          rw [hz] at hy; cases hy; exact hp
    · have h1 : ((i : Int) < (L.length : Int)) = False := by simp only [eq_iff_iff, iff_false]; omega
      rw [idxFI_no fun j hj => hb j (by omega)]
      simp only [go_sem, W_cond2, WO_guard3, WE_guard3, WQ_guard3, KB_n, KB_x, Nat.reduceBEq, Nat.reduceAdd, Nat.reduceLT, Nat.reduceLeDiff, Nat.reduceEqDiff, reduceIte, Int.reduceEq, reduceCtorEq, g0, g1, g7, g8, h1]
      exact KR_some (Over.enter s) rfl rfl
  · simp only [go_sem, W_cond2, WO_guard3, WE_guard3, WQ_guard3, KB_n, KB_x, Nat.reduceBEq, Nat.reduceAdd, Nat.reduceLT, Nat.reduceLeDiff, Nat.reduceEqDiff, reduceIte, Int.reduceEq, reduceCtorEq]
    exact ⟨0, by omega, fun j hj => by omega, rfl⟩
theorem containsFuncB_ok (L : List Int) (hL : L.length < 2 ^ 62) (g : Nat) (caps : List AV) (P : Int → Bool) (s : St) (hw : Wf s) {id off T : Nat} {p : Nat × Bool} {cs : List AV} (hid : id < s.nb) (hbx : s.box? id = some (.cells T cs)) (hcs : ∀ i z, L[i]? = some z → cs[off + i]? = some (.i .i64 z)) (hP : ∀ z ∈ L, callV (lim prog) (.fn g caps) [.i .i64 z] s.enter = some (.b (P z), s.enter)) :
    (lim prog).call f_slices_ContainsFunc_int_int [AV.bl id 1 off L.length p, .fn g caps] s = some (.b (L.any P), s) := by
  refine fn_W p_slices_ContainsFunc_int_int rfl rfl ?_
  have hz0 : wkZ c_slices_ContainsFunc_int_int.cin [AV.bl id 1 off L.length p, .fn g caps] = [AV.bl id 1 off L.length p, .fn g caps] := by simp [c_slices_ContainsFunc_int_int, wkZ, wk]
  have h1 := indexFuncB_ok L hL g caps P s.enter hw.enter (p := p) hid hbx hcs hP
  rw [hz0]
  simp only [c_slices_ContainsFunc_int_int, go_sem, W_cond2, WO_guard3, WE_guard3, WQ_guard3, KB_n, KB_x, Nat.reduceBEq, Nat.reduceAdd, Nat.reduceLT, Nat.reduceLeDiff, Nat.reduceEqDiff, reduceIte, Int.reduceEq, reduceCtorEq, h1, idxFI_any]
  exact KR_some (Over.enter s) rfl (by cases h : L.any P <;> rfl)
end Go.Proofs.Ytgloinighjdhlaa

/-
  pat.May.
-/
set_option maxRecDepth 100000
set_option maxHeartbeats 4000000
set_option linter.unusedSimpArgs false
set_option linter.constructorNameAsVariable false
namespace Go.Proofs.Ytgloinighjdhlaa
open Go.Proofs.Ytgloinighjdhlaa.Am
attribute [local irreducible] W WO WE WQ WD Tr.get Tr.set
def cnts (n : Nat) (P : List Int) : List AV := (List.range n).map fun j => .i .i64 ((P.count ((j : Nat) : Int) : Nat) : Int)
theorem cnts_nil : ∀ n, repL n [.i .i64 0] = cnts n []
  | 0 => rfl
  | n + 1 => by
    have h1 : ∀ m, cnts m [] = List.replicate m (.i .i64 0) := fun m => by
      unfold cnts
      apply List.ext_getElem?
      intro j
      rw [List.getElem?_map, List.getElem?_replicate]
      by_cases hj : j < m
      · rw [List.getElem?_range hj, if_pos hj]; rfl
      · rw [List.getElem?_eq_none (by simpa using hj), if_neg hj]; rfl
    rw [repL, cnts_nil n, h1, h1]; rfl
theorem cnts_len (n : Nat) (P : List Int) : (cnts n P).length = n := by simp [cnts]
theorem cnts_get {n j : Nat} {P : List Int} (h : j < n) : (cnts n P)[j]? = some (.i .i64 ((P.count (j : Int) : Nat) : Int)) := by
  unfold cnts
  rw [List.getElem?_map, List.getElem?_range h]; rfl
theorem cnts_set {n k : Nat} {P : List Int} (h : k < n) : (cnts n P).set k (.i .i64 ((P.count (k : Int) + 1 : Nat) : Int)) = cnts n (P ++ [(k : Int)]) := by
  apply List.ext_getElem?
  intro j
  rw [List.getElem?_set]
  by_cases hj : k = j
  · subst hj
    rw [if_pos rfl, if_pos (by rw [cnts_len]; exact h), cnts_get h]
    simp [List.count_append]
  · rw [if_neg hj]
    by_cases hjn : j < n
    · rw [cnts_get hjn, cnts_get hjn, List.count_append]
      have : List.count (j : Int) [(k : Int)] = 0 := by
        rw [List.count_eq_zero]
        simp only [List.mem_singleton]
        omega
      rw [this]; rfl
    · rw [List.getElem?_eq_none (by rw [cnts_len]; omega), List.getElem?_eq_none (by rw [cnts_len]; omega)]
def mayP (l : List FT) : Bool := match l with
  | [] => false
  | f :: t => f.isDir && ((f :: t).all FT.one && (behind (f :: t).length 0 (f :: t) && onceK (f :: t)))
def fine (n i : Nat) (f : FT) : Prop := f.one = true ∧ ∀ k ∈ f.kids, (i : Int) < k ∧ k < (n : Int)
theorem mayP_not {f : FT} {t : List FT} {i : Nat} {x : FT} (h : (f :: t)[i]? = some x) (hf : ¬ fine (f :: t).length i x) : mayP (f :: t) = false := by
  rw [Bool.eq_false_iff]
  intro hm
  simp only [mayP, Bool.and_eq_true, List.all_eq_true, behind_get] at hm
  exact hf ⟨hm.2.1 x (List.mem_of_getElem? h), fun k hk => by have := hm.2.2.1 i x h k hk; simpa using this⟩
theorem mayP_all {f : FT} {t : List FT} (hd : f.isDir = true) (h : ∀ i x, (f :: t)[i]? = some x → fine (f :: t).length i x) : mayP (f :: t) = onceK (f :: t) := by
  have h1 : (f :: t).all FT.one = true := by
    rw [List.all_eq_true]
    intro x hx
    obtain ⟨i, hi, rfl⟩ := List.mem_iff_getElem.1 hx
    exact (h i _ (List.getElem?_eq_getElem hi)).1
  have h2 : behind (f :: t).length 0 (f :: t) = true := behind_get.2 fun a g hg k hk => by
    have := (h a g hg).2 k hk
    simpa using this
  simp only [mayP, hd, h1, h2, Bool.true_and]
theorem once_any (l : List FT) (hl : 0 < l.length) : onceK l = !((List.range (l.length - 1)).map fun j : Nat => ((cntK l ((j : Int) + 1) : Nat) : Int)).any fun z => decide (z ≠ 1) := by
  unfold onceK
  rw [List.any_map, List.not_any_eq_all_not]
  congr 1
  funext j
  simp only [Function.comp]
  rw [Bool.eq_iff_iff]
  simp
  omega
theorem may1_ok (z : Int) (s : St) : (lim prog).call f_pat_May_1 [.i .i64 z] s = some (.b (decide (z ≠ 1)), s) := by
  refine fn_W p_pat_May_1 rfl rfl ?_
  simp only [c_pat_May_1, go_sem, W_cond2, WO_guard3, WE_guard3, WQ_guard3, KB_n, KB_x, Nat.reduceBEq, Nat.reduceAdd, Nat.reduceLT, Nat.reduceLeDiff, Nat.reduceEqDiff, reduceIte, Int.reduceEq, reduceCtorEq]
  exact KR_some (Over.enter s) rfl rfl
theorem flatK_take {l : List FT} {i : Nat} {f : FT} (h : l[i]? = some f) : flatK (l.take (i + 1)) = flatK (l.take i) ++ f.kids := by
  unfold flatK
  rw [List.take_add_one, h]
  simp
end Go.Proofs.Ytgloinighjdhlaa

/-
  pat.May, second part: the walk.
-/
set_option maxRecDepth 100000
set_option maxHeartbeats 4000000
set_option linter.unusedSimpArgs false
set_option linter.constructorNameAsVariable false
namespace Go.Proofs.Ytgloinighjdhlaa
open Go.Proofs.Ytgloinighjdhlaa.Am
attribute [local irreducible] W WO WE WQ WD Tr.get Tr.set
theorem flatK_le (l : List FT) (i : Nat) : (flatK (l.take i)).length ≤ (flatK l).length := by
  have : flatK l = flatK (l.take i) ++ flatK (l.drop i) := by
    unfold flatK
    rw [← List.flatten_append, ← List.map_append, List.take_append_drop]
  rw [this, List.length_append]
  omega
theorem may_ok (l : List FT) (ho : ∀ f ∈ l, f.Ok) (hl : l.length < 2 ^ 34) (hB : (flatK l).length < 2 ^ 62) (s : St) (hw : Wf s) : (lim prog).call f_pat_May [fx l] s = some (.b (mayP l), s) := by
  refine fn_W p_pat_May rfl rfl ?_
  have hz0 : wkZ c_pat_May.cin [fx l] = [fx l] := by
    simp only [c_pat_May, wkZ, fx, wk]
  rw [hz0]
  cases hl0 : l with
  | nil =>
    have r1 : (((List.map FT.av []).length : Int) = 0) = True := by simp
    simp only [c_pat_May, go_sem, W_cond2, WO_guard3, WE_guard3, WQ_guard3, KB_n, KB_x, Nat.reduceBEq, Nat.reduceAdd, Nat.reduceLT, Nat.reduceLeDiff, Nat.reduceEqDiff, reduceIte, Int.reduceEq, reduceCtorEq, fx, r1]
    exact KR_some (Over.enter s) rfl rfl
  | cons f t =>
    have hmay : mayP (f :: t) = mayP l := by rw [hl0]
    have hdef : f.isDir = false → mayP l = false := fun h => by rw [hl0, mayP, h]; rfl
    have hf0 : l[0]? = some f := by rw [hl0]; rfl
    have hpos : 0 < l.length := by rw [hl0]; simp
    rw [hmay, ← hl0]
    clear hmay
    have r1 : ((l.length : Int) = 0) = False := by simp only [eq_iff_iff, iff_false]; omega
    have hget := fx_get hf0
    have hd := dir_ok f s.enter hw.enter
    cases hi : f.isDir
    · rw [hi] at hd
      rw [hdef hi]
      simp only [c_pat_May, go_sem, W_cond2, WO_guard3, WE_guard3, WQ_guard3, KB_n, KB_x, Nat.reduceBEq, Nat.reduceAdd, Nat.reduceLT, Nat.reduceLeDiff, Nat.reduceEqDiff, reduceIte, Int.reduceEq, reduceCtorEq, fx, List.length_map, r1, natOf0, hget, cl_agg, ld_cells6, pub_cells6, hd]
      exact KR_some (Over.enter s) rfl rfl
    · rw [hi] at hd
      have hmk : (0 ≤ (l.length : Int) ∧ (l.length : Int) ≤ (l.length : Int) ∧ (l.length : Int) * (1 : Nat) < 2 ^ 38 ∧ (l.length : Int) < 2 ^ 38) = True := by
        simp only [eq_iff_iff, iff_true]; omega
      simp only [c_pat_May, go_sem, W_cond2, WO_guard3, WE_guard3, WQ_guard3, KB_n, KB_x, Nat.reduceBEq, Nat.reduceAdd, Nat.reduceLT, Nat.reduceLeDiff, Nat.reduceEqDiff, reduceIte, Int.reduceEq, reduceCtorEq, fx, List.length_map, r1, natOf0, hget, cl_agg, ld_cells6, pub_cells6, hd, hmk, Int.toNat_natCast, cnts_nil, Nat.mul_one]
      have H0 := (Hp.begin hw).new (.cells 3 (cnts l.length []))
      generalize hq0 : s.enter.new (.cells 3 (cnts l.length [])) = q0 at H0
      generalize hm : s.enter.nb = m at H0
      refine W_loop (fun x e q => ∃ i : Nat, i + x = l.length ∧ Hp s q s.en [] [(m, .cells 3 (cnts l.length (flatK (l.take i))))] ∧ (∀ a g, a < i → l[a]? = some g → fine l.length a g) ∧ e.get 0 = fx l ∧ e.get 3 = .bl m 1 0 l.length (l.length, true) ∧ e.get 21 = fx l ∧ e.get 22 = .i .i64 (l.length : Nat) ∧ e.get 23 = .i .i64 (i : Nat)) ?_ l.length _ _ ?_
      · rintro x e q ⟨i, hix, H, hfi, g0, g3, g21, g22, g23⟩
        by_cases h : i < l.length
        · have h1 : ((i : Int) < (l.length : Int)) = True := by simp only [eq_iff_iff, iff_true]; omega
          obtain ⟨g, hg⟩ : ∃ g, l[i]? = some g := ⟨_, List.getElem?_eq_getElem h⟩
          have hg2 := fx_get hg
          have hgo := ho g (List.mem_of_getElem? hg)
          have hw1 := wrap_succ (show i + 1 < 2 ^ 63 by omega)
          obtain ⟨q1, d1, H1, n1⟩ := H.adp (T := 60) (m := 6) (z := [.b false, .i .u8 0, .nsl, .nsl, .i .i64 0, .i .i64 0]) (v := .agg g.cells) rfl ⟨rfl, rfl⟩
          generalize hb : q.nb = b at d1 H1
          have hone := one_ok g hgo q1 H1.wf
          have lw := H1.ldw (m := 6) 0 rfl rfl
          have l3 := H1.ld 0 (off := 3) (v := zx g.kids) rfl rfl
          have hno : ¬ fine l.length i g → mayP l = false := fun hn => by rw [hl0] at hg hn ⊢; exact mayP_not hg hn
          cases ho1 : g.one
          · rw [ho1] at hone
            rw [hno fun hh => by rw [hh.1] at ho1; cases ho1]
            simp only [go_sem, W_cond2, WO_guard3, WE_guard3, WQ_guard3, KB_n, KB_x, Nat.reduceBEq, Nat.reduceAdd, Nat.reduceLT, Nat.reduceLeDiff, Nat.reduceEqDiff, reduceIte, Int.reduceEq, reduceCtorEq, g0, g3, g21, g22, g23, fx, h1, natOf_nat, hg2, cl_agg, ld_cells6, pub_cells6, d1, hb, lw, hone]
            exact KR_some H1.over rfl rfl
          · rw [ho1] at hone
            simp only [go_sem, W_cond2, WO_guard3, WE_guard3, WQ_guard3, KB_n, KB_x, Nat.reduceBEq, Nat.reduceAdd, Nat.reduceLT, Nat.reduceLeDiff, Nat.reduceEqDiff, reduceIte, Int.reduceEq, reduceCtorEq, g0, g3, g21, g22, g23, fx, h1, natOf_nat, hg2, cl_agg, ld_cells6, pub_cells6, d1, hb, lw, hone, l3, Nat.zero_add, zx, List.length_map]
            refine W_loop (fun y e q' => ∃ c : Nat, c + y = g.kids.length ∧ Hp s q' s.en [] [(b, .cells 60 g.cells), (m, .cells 3 (cnts l.length (flatK (l.take i) ++ g.kids.take c)))] ∧ (∀ k ∈ g.kids.take c, (i : Int) < k ∧ k < (l.length : Int)) ∧ e.get 0 = fx l ∧ e.get 3 = .bl m 1 0 l.length (l.length, true) ∧ e.get 21 = fx l ∧ e.get 22 = .i .i64 (l.length : Nat) ∧ e.get 23 = .i .i64 (i : Nat) ∧ e.get 4 = .i .i64 (i : Nat) ∧ e.get 32 = zx g.kids ∧ e.get 33 = .i .i64 (g.kids.length : Nat) ∧ e.get 34 = .i .i64 (c : Nat)) ?_ g.kids.length _ _ ?_
            · clear g0 g3 g21 g22 g23
              rintro y e q' ⟨c, hcy, H, hfk, g0, g3, g21, g22, g23, g4, g32, g33, g34⟩
              by_cases hc : c < g.kids.length
              · have c1 : ((c : Int) < (g.kids.length : Int)) = True := by simp only [eq_iff_iff, iff_true]; omega
                obtain ⟨k, hk⟩ : ∃ k, g.kids[c]? = some k := ⟨_, List.getElem?_eq_getElem hc⟩
                have hk2 := iv_get hk
                have hkm := List.mem_of_getElem? hk
                have hw2 := wrap_succ (show c + 1 < 2 ^ 63 by have := hgo.klen; omega)
                by_cases k1 : k ≤ (i : Int)
                · have e1 : (k ≤ (i : Int)) = True := by simp [k1]
                  rw [hno fun hh => by have := (hh.2 k hkm).1; omega]
                  simp only [go_sem, W_cond2, WO_guard3, WE_guard3, WQ_guard3, KB_n, KB_x, Nat.reduceBEq, Nat.reduceAdd, Nat.reduceLT, Nat.reduceLeDiff, Nat.reduceEqDiff, reduceIte, Int.reduceEq, reduceCtorEq, g0, g3, g21, g22, g23, g4, g32, g33, g34, zx, c1, natOf_nat, hk2, cells_iv, ldA_1, e1]
                  exact KR_some H.over rfl rfl
                · have e1 : (k ≤ (i : Int)) = False := by simp [k1]
                  by_cases k2 : (l.length : Int) ≤ k
                  · have e2 : ((l.length : Int) ≤ k) = True := by simp [k2]
                    rw [hno fun hh => by have := (hh.2 k hkm).2; omega]
                    simp only [go_sem, W_cond2, WO_guard3, WE_guard3, WQ_guard3, KB_n, KB_x, Nat.reduceBEq, Nat.reduceAdd, Nat.reduceLT, Nat.reduceLeDiff, Nat.reduceEqDiff, reduceIte, Int.reduceEq, reduceCtorEq, g0, g3, g21, g22, g23, g4, g32, g33, g34, fx, zx, List.length_map, c1, natOf_nat, hk2, cells_iv, ldA_1, e1, e2]
                    exact KR_some H.over rfl rfl
                  · have e2 : ((l.length : Int) ≤ k) = False := by simp [k2]
                    obtain ⟨j, rfl⟩ : ∃ j : Nat, k = (j : Int) := ⟨k.toNat, by omega⟩
                    have hj : j < l.length := by omega
                    have hlt : (j < l.length) = True := by simp [hj]
                    have lj := H.ld 1 (off := j) (v := _) rfl (cnts_get hj)
                    obtain ⟨q2, d2, H2, n2, _⟩ := H.st 1 (off := j) (v := .i .i64 (((flatK (l.take i) ++ g.kids.take c).count (j : Int) + 1 : Nat) : Int)) rfl (by rw [cnts_len]; exact hj) ⟨rfl, rfl⟩
                    have hth : ∀ u : St, thawA u (.bl m 1 0 l.length (l.length, true)) = some (.bl m 1 0 l.length (l.length, true), u) := fun _ => rfl
                    have hcnt : (flatK (l.take i) ++ g.kids.take c).count (j : Int) < 2 ^ 62 := by
                      have a1 := List.count_le_length (a := (j : Int)) (l := flatK (l.take i) ++ g.kids.take c)
                      have a2 := flatK_le l (i + 1)
                      rw [flatK_take hg] at a2
                      simp only [List.length_append, List.length_take] at a1 a2
                      omega
                    have hw3 := wrap_succ (show (flatK (l.take i) ++ g.kids.take c).count (j : Int) + 1 < 2 ^ 63 by omega)
                    simp only [go_sem, W_cond2, WO_guard3, WE_guard3, WQ_guard3, KB_n, KB_x, Nat.reduceBEq, Nat.reduceAdd, Nat.reduceLT, Nat.reduceLeDiff, Nat.reduceEqDiff, reduceIte, Int.reduceEq, reduceCtorEq, g0, g3, g21, g22, g23, g4, g32, g33, g34, fx, zx, List.length_map, c1, natOf_nat, hk2, cells_iv, ldA_1, e1, e2, hlt, Nat.zero_add, Nat.mul_one, lj, hth, hw3, d2, hw2]
                    rw [cnts_set hj] at H2
                    have htk : g.kids.take (c + 1) = g.kids.take c ++ [(j : Int)] := by rw [List.take_add_one, hk]; rfl
                    refine ⟨y - 1, by omega, c + 1, by omega, ?_, ?_, ?_⟩
                    · rw [htk, ← List.append_assoc]; exact H2
                    · intro k' hk'
                      rw [htk] at hk'
                      rcases List.mem_append.1 hk' with h' | h'
                      · exact hfk k' h'
                      · rw [List.mem_singleton] at h'; subst h'; omega
                    rfl
              · have c1 : ((c : Int) < (g.kids.length : Int)) = False := by simp only [eq_iff_iff, iff_false]; omega
                have htc : g.kids.take c = g.kids := List.take_of_length_le (by omega)
                rw [htc] at H hfk
                rw [← flatK_take hg] at H
                simp only [go_sem, W_cond2, WO_guard3, WE_guard3, WQ_guard3, KB_n, KB_x, Nat.reduceBEq, Nat.reduceAdd, Nat.reduceLT, Nat.reduceLeDiff, Nat.reduceEqDiff, reduceIte, Int.reduceEq, reduceCtorEq, g0, g3, g21, g22, g23, g4, g32, g33, g34, c1, hw1]
                refine ⟨x - 1, by omega, i + 1, by omega, H.dropB, fun a g' ha hg' => ?_, rfl, rfl, rfl⟩
                rcases Nat.lt_or_ge a i with hlt | hge
                · exact hfi a g' hlt hg'
                · obtain rfl : a = i := by omega
                  rw [hg] at hg'; cases hg'
                  exact ⟨ho1, hfk⟩
            · simp only [go_sem, W_cond2, WO_guard3, WE_guard3, WQ_guard3, KB_n, KB_x, Nat.reduceBEq, Nat.reduceAdd, Nat.reduceLT, Nat.reduceLeDiff, Nat.reduceEqDiff, reduceIte, Int.reduceEq, reduceCtorEq]
              refine ⟨0, by omega, ?_, fun k hk => by simp at hk, ?_⟩
              · rw [List.take_zero, List.append_nil]; exact H1
              exact ⟨g0, g3, g21, g22, g23, rfl, rfl⟩
        · have h1 : ((i : Int) < (l.length : Int)) = False := by simp only [eq_iff_iff, iff_false]; omega
          rw [List.take_of_length_le (by omega)] at H
          have hs : sliceA q false 1 (.bl m 1 0 l.length (l.length, true)) (some (.i .i64 1)) none none = some (.bl m 1 1 (l.length - 1) (l.length, true), q) := by
            have hbd : bounds l.length (some (.i .i64 1)) none = some (1, l.length) := by
              show (if 1 ≤ l.length ∧ l.length ≤ l.length then some (1, l.length) else none) = _
              rw [if_pos ⟨by omega, by omega⟩]
            simp only [sliceA, Option.isSome_none, if_true, Bool.false_eq_true, if_false, hbd]
          have hbx := H.box (i := 0) rfl
          have hc := containsFuncB_ok ((List.range (l.length - 1)).map fun j : Nat => ((cntK l ((j : Int) + 1) : Nat) : Int)) (by simp; omega) f_pat_May_1 [] (fun z => decide (z ≠ 1)) q H.wf (id := m) (off := 1) (p := (l.length, true)) hbx.2.2 hbx.1 (fun j z hz => by
            rw [List.getElem?_map] at hz
            have hj : j < l.length - 1 := by
              by_cases hj : j < l.length - 1
              · exact hj
              · rw [List.getElem?_eq_none (by simpa using hj)] at hz; cases hz
            rw [List.getElem?_range hj] at hz
            cases hz
            rw [cnts_get (show 1 + j < l.length by omega), show (((1 + j : Nat) : Int)) = (j : Int) + 1 by omega]
            rfl) (fun z _ => may1_ok z q.enter)
          rw [List.length_map, List.length_range] at hc
          simp only [go_sem, W_cond2, WO_guard3, WE_guard3, WQ_guard3, KB_n, KB_x, Nat.reduceBEq, Nat.reduceAdd, Nat.reduceLT, Nat.reduceLeDiff, Nat.reduceEqDiff, reduceIte, Int.reduceEq, reduceCtorEq, g0, g3, g21, g22, g23, h1, hs, hc]
          refine KR_some H.over rfl ?_
          have hfin : mayP l = onceK l := by
            rw [hl0]
            exact mayP_all hi fun a g hg => by rw [← hl0] at hg ⊢; exact hfi a g (by have := (List.getElem?_eq_some_iff.1 hg).1; omega) hg
          rw [hfin, once_any l hpos]
          rfl
      · simp only [go_sem, W_cond2, WO_guard3, WE_guard3, WQ_guard3, KB_n, KB_x, Nat.reduceBEq, Nat.reduceAdd, Nat.reduceLT, Nat.reduceLeDiff, Nat.reduceEqDiff, reduceIte, Int.reduceEq, reduceCtorEq]
        exact ⟨0, by omega, H0, fun a g ha => by omega, rfl, rfl, rfl⟩
end Go.Proofs.Ytgloinighjdhlaa

/-
  The document's May: above.
-/
set_option maxRecDepth 100000
set_option maxHeartbeats 4000000
set_option linter.unusedSimpArgs false
set_option linter.constructorNameAsVariable false
namespace Go.Proofs.Ytgloinighjdhlaa
open Go.Proofs.Ytgloinighjdhlaa.Am
attribute [local irreducible] W WO WE WQ WD Tr.get Tr.set
def aboveI (l : List FT) (j : Int) : Int := match aboveN l j with
  | some i => (i : Int)
  | none => -1
def Found (l : List FT) (P : List Int) (j : Int) (at_ : Int) : Prop := (P.count j = 0 ∧ at_ = -1) ∨ (P.count j = 1 ∧ ∃ (a : Nat) (f : FT), at_ = (a : Int) ∧ l[a]? = some f ∧ j ∈ f.kids)
theorem above_two {l : List FT} {j : Int} (h : 2 ≤ cntK l j) : aboveI l j = -1 := by
  unfold aboveI aboveN
  rw [if_neg (by omega)]
theorem above_end {l : List FT} {j at_ : Int} (h : Found l (flatK l) j at_) : aboveI l j = at_ := by
  rcases h with ⟨h, rfl⟩ | ⟨h, a, f, rfl, hf, hj⟩
  · unfold aboveI aboveN
    rw [if_neg (by unfold cntK; omega)]
  · unfold aboveI
    rw [above_at h hf hj]
theorem flat_split {l : List FT} {i c : Nat} {f : FT} {k : Int} (h : l[i]? = some f) (hk : f.kids[c]? = some k) : ∃ S, flatK l = flatK (l.take i) ++ f.kids.take c ++ [k] ++ S := by
  refine ⟨f.kids.drop (c + 1) ++ flatK (l.drop (i + 1)), ?_⟩
  have h1 : flatK l = flatK (l.take (i + 1)) ++ flatK (l.drop (i + 1)) := by
    unfold flatK
    rw [← List.flatten_append, ← List.map_append, List.take_append_drop]
  have h2 : f.kids = f.kids.take c ++ [k] ++ f.kids.drop (c + 1) := by
    have h3 : f.kids.take (c + 1) = f.kids.take c ++ [k] := by rw [List.take_add_one, hk]; rfl
    rw [← h3, List.take_append_drop]
  rw [h1, flatK_take h]
  conv => lhs; rw [h2]
  simp only [List.append_assoc]
theorem above_ok (l : List FT) (ho : ∀ f ∈ l, f.Ok) (hl : l.length < 2 ^ 34) (j : Int) (s : St) (hw : Wf s) : (lim prog).call f_touchstoneref20_above [fx l, .i .i64 j] s = some (.i .i64 (aboveI l j), s) := by
  refine fn_W p_touchstoneref20_above rfl rfl ?_
  have hz0 : wkZ c_touchstoneref20_above.cin [fx l, .i .i64 j] = [fx l, .i .i64 j] := by
    simp only [c_touchstoneref20_above, wkZ, fx, wk]
  have hbr : ∀ z, KR s [.id] (.i .i64 z) (some ([.i .i64 z], s.enter)) := fun z => KR_some (Over.enter s) rfl rfl
  have hth : ∀ u : St, thawA u (.ws false 6 (l.map FT.av)) = some (.ws false 6 (l.map FT.av), u) := fun _ => rfl
  rw [hz0]
  simp only [c_touchstoneref20_above, go_sem, W_cond2, WO_guard3, WE_guard3, WQ_guard3, KB_n, KB_x, Nat.reduceBEq, Nat.reduceAdd, Nat.reduceLT, Nat.reduceLeDiff, Nat.reduceEqDiff, reduceIte, Int.reduceEq, reduceCtorEq]
  refine W_loop (fun x e q => ∃ i : Nat, i + x = l.length ∧ q = s.enter ∧ (∃ at_, Found l (flatK (l.take i)) j at_ ∧ e.get 5 = .i .i64 at_) ∧ e.get 0 = fx l ∧ e.get 1 = .i .i64 j ∧ e.get 6 = .i .i64 (i : Nat)) ?_ l.length _ _ ?_
  · rintro x e q ⟨i, hix, rfl, ⟨at_, hat, g5⟩, g0, g1, g6⟩
    by_cases h : i < l.length
    · have h1 : ((i : Int) < (l.length : Int)) = True := by simp only [eq_iff_iff, iff_true]; omega
      obtain ⟨g, hg⟩ : ∃ g, l[i]? = some g := ⟨_, List.getElem?_eq_getElem h⟩
      have hg2 := fx_get hg
      have hgo := ho g (List.mem_of_getElem? hg)
      have hw1 := wrap_succ (show i + 1 < 2 ^ 63 by omega)
      have l3 : ∀ u, ldA u false 1 (.ep g.cells 3 .shut) = some (zx g.kids) := fun u => rfl
      simp only [go_sem, W_cond2, WO_guard3, WE_guard3, WQ_guard3, KB_n, KB_x, Nat.reduceBEq, Nat.reduceAdd, Nat.reduceLT, Nat.reduceLeDiff, Nat.reduceEqDiff, reduceIte, Int.reduceEq, reduceCtorEq, g0, g1, g5, g6, fx, List.length_map, h1]
      refine W_loop (fun y e q => ∃ c : Nat, c + y = g.kids.length ∧ q = s.enter ∧ (∃ at_, Found l (flatK (l.take i) ++ g.kids.take c) j at_ ∧ e.get 5 = .i .i64 at_) ∧ e.get 0 = fx l ∧ e.get 1 = .i .i64 j ∧ e.get 6 = .i .i64 (i : Nat) ∧ e.get 7 = .i .i64 (c : Nat)) ?_ g.kids.length _ _ ?_
      · clear g0 g1 g5 g6 hat at_
        rintro y e q ⟨c, hcy, rfl, ⟨at_, hat, g5⟩, g0, g1, g6, g7⟩
        by_cases hc : c < g.kids.length
        · have c1 : ((c : Int) < (g.kids.length : Int)) = True := by simp only [eq_iff_iff, iff_true]; omega
          obtain ⟨k, hk⟩ : ∃ k, g.kids[c]? = some k := ⟨_, List.getElem?_eq_getElem hc⟩
          have hk2 := iv_get hk
          have hkm := List.mem_of_getElem? hk
          have hw2 := wrap_succ (show c + 1 < 2 ^ 63 by have := hgo.klen; omega)
          have htk : g.kids.take (c + 1) = g.kids.take c ++ [k] := by rw [List.take_add_one, hk]; rfl
          by_cases k1 : k = j
          · have e1 : (k = j) = True := by simp [k1]
            rcases hat with ⟨h0, rfl⟩ | ⟨h0, a, f, rfl, hf, hj⟩
            · have e2 : ((0 : Int) ≤ -1) = False := by simp
              simp only [go_sem, W_cond2, WO_guard3, WE_guard3, WQ_guard3, KB_n, KB_x, Nat.reduceBEq, Nat.reduceAdd, Nat.reduceLT, Nat.reduceLeDiff, Nat.reduceEqDiff, reduceIte, Int.reduceEq, reduceCtorEq, g0, g1, g5, g6, g7, fx, zx, List.length_map, natOf_nat, hg2, cl_agg, l3, c1, hk2, cells_iv, ldA_1, hth, e1, e2, hw2]
              refine ⟨y - 1, by omega, c + 1, by omega, ⟨i, .inr ⟨?_, i, g, rfl, hg, by rw [← k1]; exact hkm⟩, rfl⟩, rfl⟩
              rw [htk, ← List.append_assoc, List.count_append, h0, k1]; simp
            · have e2 : ((0 : Int) ≤ (a : Int)) = True := by simp
              obtain ⟨S, hS⟩ := flat_split hg hk
              rw [above_two (by
                unfold cntK
                rw [hS, List.count_append, List.count_append, h0, k1]; simp)]
              simp only [go_sem, W_cond2, WO_guard3, WE_guard3, WQ_guard3, KB_n, KB_x, Nat.reduceBEq, Nat.reduceAdd, Nat.reduceLT, Nat.reduceLeDiff, Nat.reduceEqDiff, reduceIte, Int.reduceEq, reduceCtorEq, g0, g1, g5, g6, g7, fx, zx, List.length_map, natOf_nat, hg2, cl_agg, l3, c1, hk2, cells_iv, ldA_1, hth, e1, e2, hw2]
              exact hbr _
          · have e1 : (k = j) = False := by simp [k1]
            simp only [go_sem, W_cond2, WO_guard3, WE_guard3, WQ_guard3, KB_n, KB_x, Nat.reduceBEq, Nat.reduceAdd, Nat.reduceLT, Nat.reduceLeDiff, Nat.reduceEqDiff, reduceIte, Int.reduceEq, reduceCtorEq, g0, g1, g5, g6, g7, fx, zx, List.length_map, natOf_nat, hg2, cl_agg, l3, c1, hk2, cells_iv, ldA_1, hth, e1, hw2]
            refine ⟨y - 1, by omega, c + 1, by omega, ⟨at_, ?_, rfl⟩, rfl⟩
            have h0 : (flatK (l.take i) ++ g.kids.take (c + 1)).count j = (flatK (l.take i) ++ g.kids.take c).count j := by
              rw [htk, ← List.append_assoc, List.count_append]
              have : List.count j [k] = 0 := by rw [List.count_eq_zero]; simp; omega
              omega
            unfold Found
            rw [h0]; exact hat
        · have c1 : ((c : Int) < (g.kids.length : Int)) = False := by simp only [eq_iff_iff, iff_false]; omega
          have htc : g.kids.take c = g.kids := List.take_of_length_le (by omega)
          rw [htc, ← flatK_take hg] at hat
          simp only [go_sem, W_cond2, WO_guard3, WE_guard3, WQ_guard3, KB_n, KB_x, Nat.reduceBEq, Nat.reduceAdd, Nat.reduceLT, Nat.reduceLeDiff, Nat.reduceEqDiff, reduceIte, Int.reduceEq, reduceCtorEq, g0, g1, g5, g6, g7, fx, zx, List.length_map, natOf_nat, hg2, cl_agg, l3, c1, hth, hw1]
          exact ⟨x - 1, by omega, i + 1, by omega, ⟨at_, hat, rfl⟩, rfl⟩
      · simp only [go_sem, W_cond2, WO_guard3, WE_guard3, WQ_guard3, KB_n, KB_x, Nat.reduceBEq, Nat.reduceAdd, Nat.reduceLT, Nat.reduceLeDiff, Nat.reduceEqDiff, reduceIte, Int.reduceEq, reduceCtorEq]
        exact ⟨0, by omega, ⟨at_, by rw [List.take_zero, List.append_nil]; exact hat, g5⟩, g0, g1, g6, rfl⟩
    · have h1 : ((i : Int) < (l.length : Int)) = False := by simp only [eq_iff_iff, iff_false]; omega
      rw [List.take_of_length_le (by omega)] at hat
      rw [above_end hat]
      simp only [go_sem, W_cond2, WO_guard3, WE_guard3, WQ_guard3, KB_n, KB_x, Nat.reduceBEq, Nat.reduceAdd, Nat.reduceLT, Nat.reduceLeDiff, Nat.reduceEqDiff, reduceIte, Int.reduceEq, reduceCtorEq, g0, g1, g5, g6, fx, List.length_map, h1]
      exact hbr _
  · simp only [go_sem, W_cond2, WO_guard3, WE_guard3, WQ_guard3, KB_n, KB_x, Nat.reduceBEq, Nat.reduceAdd, Nat.reduceLT, Nat.reduceLeDiff, Nat.reduceEqDiff, reduceIte, Int.reduceEq, reduceCtorEq]
    exact ⟨0, by omega, ⟨-1, .inl ⟨rfl, rfl⟩, rfl⟩, rfl⟩
theorem mayP_two (f : FT) (t : List FT) : mayP (f :: t) = (f.isDir && ((f :: t).all FT.one && (decide ((flatK (f :: t)).length = (f :: t).length - 1) && upB (f :: t)))) := by
  rw [mayP, may_two (f :: t) (by simp)]
theorem upB_all {l : List FT} : upB l = true ↔ ∀ j, 1 ≤ j → j < l.length → 0 ≤ aboveI l (j : Int) ∧ aboveI l (j : Int) < j := by
  rw [up_iff]
  constructor
  · intro h j h1 h2
    obtain ⟨n, e, hn⟩ := h j h1 (by omega)
    unfold aboveI
    rw [e]
    exact ⟨by simp, by simp; omega⟩
  · intro h j h1 h2
    have := h j h1 (by omega)
    unfold aboveI at this
    cases e : aboveN l (j : Int) with
    | none => rw [e] at this; simp at this
    | some n => rw [e] at this; exact ⟨n, rfl, by simp at this; omega⟩
theorem ref20may_ok (l : List FT) (ho : ∀ f ∈ l, f.Ok) (hl : l.length < 2 ^ 34) (hB : (flatK l).length < 2 ^ 62) (s : St) (hw : Wf s) : (lim prog).call f_touchstoneref20_May [fx l] s = some (.b (mayP l), s) := by
  refine fn_W p_touchstoneref20_May rfl rfl ?_
  have hz0 : wkZ c_touchstoneref20_May.cin [fx l] = [fx l] := by
    simp only [c_touchstoneref20_May, wkZ, fx, wk]
  have hbr : ∀ b, KR s [.id] (.b b) (some ([.b b], s.enter)) := fun z => KR_some (Over.enter s) rfl rfl
  have hth : ∀ u : St, thawA u (.ws false 6 (l.map FT.av)) = some (.ws false 6 (l.map FT.av), u) := fun _ => rfl
  rw [hz0]
  cases hl0 : l with
  | nil =>
    have r1 : (((List.map FT.av []).length : Int) = 0) = True := by simp
    simp only [c_touchstoneref20_May, go_sem, W_cond2, WO_guard3, WE_guard3, WQ_guard3, KB_n, KB_x, Nat.reduceBEq, Nat.reduceAdd, Nat.reduceLT, Nat.reduceLeDiff, Nat.reduceEqDiff, reduceIte, Int.reduceEq, reduceCtorEq, fx, r1]
    exact KR_some (Over.enter s) rfl rfl
  | cons f t =>
    have hmay := mayP_two f t
    rw [← hl0] at hmay ⊢
    rw [hmay]
    have hf0 : l[0]? = some f := by rw [hl0]; rfl
    have hpos : 0 < l.length := by rw [hl0]; simp
    have r1 : ((l.length : Int) = 0) = False := by simp only [eq_iff_iff, iff_false]; omega
    have hget := fx_get hf0
    have hd := ref20dir_ok f s.enter hw.enter
    cases hi : f.isDir
    · rw [hi] at hd
      simp only [c_touchstoneref20_May, go_sem, W_cond2, WO_guard3, WE_guard3, WQ_guard3, KB_n, KB_x, Nat.reduceBEq, Nat.reduceAdd, Nat.reduceLT, Nat.reduceLeDiff, Nat.reduceEqDiff, reduceIte, Int.reduceEq, reduceCtorEq, fx, List.length_map, r1, natOf0, hget, cl_agg, ld_cells6, pub_cells6, hd, Bool.false_and]
      exact hbr _
    · rw [hi] at hd
      rw [Bool.true_and]
      simp only [c_touchstoneref20_May, go_sem, W_cond2, WO_guard3, WE_guard3, WQ_guard3, KB_n, KB_x, Nat.reduceBEq, Nat.reduceAdd, Nat.reduceLT, Nat.reduceLeDiff, Nat.reduceEqDiff, reduceIte, Int.reduceEq, reduceCtorEq, fx, List.length_map, r1, natOf0, hget, cl_agg, ld_cells6, pub_cells6, hd]
      refine W_loop (fun x e q => ∃ i : Nat, i + x = l.length ∧ q = s.enter ∧ (∀ a g, a < i → l[a]? = some g → g.one = true) ∧ e.get 0 = fx l ∧ e.get 3 = .i .i64 ((flatK (l.take i)).length : Nat) ∧ e.get 4 = .i .i64 (i : Nat)) ?_ l.length _ _ ?_
      · rintro x e q ⟨i, hix, rfl, hon, g0, g3, g4⟩
        by_cases h : i < l.length
        · have h1 : ((i : Int) < (l.length : Int)) = True := by simp only [eq_iff_iff, iff_true]; omega
          obtain ⟨g, hg⟩ : ∃ g, l[i]? = some g := ⟨_, List.getElem?_eq_getElem h⟩
          have hg2 := fx_get hg
          have hgm := List.mem_of_getElem? hg
          have hgo := ho g hgm
          have hw1 := wrap_succ (show i + 1 < 2 ^ 63 by omega)
          have l3 : ∀ u, ldA u false 1 (.ep g.cells 3 .shut) = some (zx g.kids) := fun u => rfl
          have hone := ref20one_ok g hgo s.enter hw.enter
          cases ho1 : g.one
          · rw [ho1] at hone
            have : l.all FT.one = false := by
              rw [Bool.eq_false_iff]; intro hh
              rw [List.all_eq_true] at hh
              rw [hh g hgm] at ho1; cases ho1
            rw [this, Bool.false_and]
            simp only [go_sem, W_cond2, WO_guard3, WE_guard3, WQ_guard3, KB_n, KB_x, Nat.reduceBEq, Nat.reduceAdd, Nat.reduceLT, Nat.reduceLeDiff, Nat.reduceEqDiff, reduceIte, Int.reduceEq, reduceCtorEq, g0, g3, g4, fx, List.length_map, h1, natOf_nat, hg2, cl_agg, ld_cells6, pub_cells6, hone]
            exact hbr _
          · rw [ho1] at hone
            have hfl := flatK_le l (i + 1)
            have hft := flatK_take hg
            have hsum : IntKind.i64.wrap (((flatK (l.take i)).length : Int) + (g.kids.length : Int)) = ((flatK (l.take (i + 1))).length : Int) := by
              rw [hft, List.length_append, show ((flatK (l.take i)).length : Int) + (g.kids.length : Int) = (((flatK (l.take i)).length + g.kids.length : Nat) : Int) by omega]
              refine wrap_nat ?_
              rw [hft, List.length_append] at hfl
              omega
            simp only [go_sem, W_cond2, WO_guard3, WE_guard3, WQ_guard3, KB_n, KB_x, Nat.reduceBEq, Nat.reduceAdd, Nat.reduceLT, Nat.reduceLeDiff, Nat.reduceEqDiff, reduceIte, Int.reduceEq, reduceCtorEq, g0, g3, g4, fx, zx, List.length_map, h1, natOf_nat, hg2, cl_agg, ld_cells6, pub_cells6, hone, hth, l3, hsum, hw1]
            refine ⟨x - 1, by omega, i + 1, by omega, fun a g' ha hg' => ?_, rfl, rfl⟩
            rcases Nat.lt_or_ge a i with hlt | hge
            · exact hon a g' hlt hg'
            · obtain rfl : a = i := by omega
              rw [hg] at hg'; cases hg'
              exact ho1
        · have h1 : ((i : Int) < (l.length : Int)) = False := by simp only [eq_iff_iff, iff_false]; omega
          rw [List.take_of_length_le (by omega)] at g3
          have hall : l.all FT.one = true := by
            rw [List.all_eq_true]
            intro g hg
            obtain ⟨a, ha, rfl⟩ := List.mem_iff_getElem.1 hg
            exact hon a _ (by omega) (List.getElem?_eq_getElem ha)
          have hsb : IntKind.i64.wrap ((l.length : Int) - 1) = ((l.length - 1 : Nat) : Int) := by
            rw [show (l.length : Int) - 1 = ((l.length - 1 : Nat) : Int) by omega]; exact wrap_nat (by omega)
          rw [hall, Bool.true_and]
          by_cases hk : (flatK l).length = l.length - 1
          · have e1 : (((flatK l).length : Int) ≠ ((l.length - 1 : Nat) : Int)) = False := by simp only [ne_eq, eq_iff_iff, iff_false]; omega
            rw [decide_eq_true hk, Bool.true_and]
            simp only [go_sem, W_cond2, WO_guard3, WE_guard3, WQ_guard3, KB_n, KB_x, Nat.reduceBEq, Nat.reduceAdd, Nat.reduceLT, Nat.reduceLeDiff, Nat.reduceEqDiff, reduceIte, Int.reduceEq, reduceCtorEq, g0, g3, g4, fx, List.length_map, h1, hsb, e1]
            refine W_loop (fun x e q => ∃ i : Nat, 1 ≤ i ∧ i + x = l.length ∧ q = s.enter ∧ (∀ j, 1 ≤ j → j < i → 0 ≤ aboveI l (j : Int) ∧ aboveI l (j : Int) < j) ∧ e.get 0 = fx l ∧ e.get 5 = .i .i64 (i : Nat)) ?_ (l.length - 1) _ _ ?_
            · clear hon g0 g3 g4 hix h h1
              rintro x e q ⟨i, hi1, hix, rfl, hup, g0, g5⟩
              by_cases h : i < l.length
              · have h1 : ((i : Int) < (l.length : Int)) = True := by simp only [eq_iff_iff, iff_true]; omega
                have ha := above_ok l ho hl (i : Int) s.enter hw.enter
                have hw1 := wrap_succ (show i + 1 < 2 ^ 63 by omega)
                unfold fx at ha
                by_cases a1 : aboveI l (i : Int) < 0
                · have e2 : (aboveI l (i : Int) < 0) = True := by simp [a1]
                  have : upB l = false := by
                    rw [Bool.eq_false_iff]; intro hh
                    have := (upB_all.1 hh i hi1 h).1
                    omega
                  rw [this]
                  simp only [go_sem, W_cond2, WO_guard3, WE_guard3, WQ_guard3, KB_n, KB_x, Nat.reduceBEq, Nat.reduceAdd, Nat.reduceLT, Nat.reduceLeDiff, Nat.reduceEqDiff, reduceIte, Int.reduceEq, reduceCtorEq, g0, g5, fx, List.length_map, h1, ha, e2]
                  exact hbr _
                · have e2 : (aboveI l (i : Int) < 0) = False := by simp only [eq_iff_iff, iff_false]; exact a1
                  by_cases a2 : (i : Int) ≤ aboveI l (i : Int)
                  · have e3 : ((i : Int) ≤ aboveI l (i : Int)) = True := by simp [a2]
                    have : upB l = false := by
                      rw [Bool.eq_false_iff]; intro hh
                      have := (upB_all.1 hh i hi1 h).2
                      omega
                    rw [this]
                    simp only [go_sem, W_cond2, WO_guard3, WE_guard3, WQ_guard3, KB_n, KB_x, Nat.reduceBEq, Nat.reduceAdd, Nat.reduceLT, Nat.reduceLeDiff, Nat.reduceEqDiff, reduceIte, Int.reduceEq, reduceCtorEq, g0, g5, fx, List.length_map, h1, ha, e2, e3]
                    exact hbr _
                  · have e3 : ((i : Int) ≤ aboveI l (i : Int)) = False := by simp only [eq_iff_iff, iff_false]; exact a2
                    simp only [go_sem, W_cond2, WO_guard3, WE_guard3, WQ_guard3, KB_n, KB_x, Nat.reduceBEq, Nat.reduceAdd, Nat.reduceLT, Nat.reduceLeDiff, Nat.reduceEqDiff, reduceIte, Int.reduceEq, reduceCtorEq, g0, g5, fx, List.length_map, h1, ha, e2, e3, hw1]
                    refine ⟨x - 1, by omega, i + 1, by omega, by omega, fun j h1 h2 => ?_, rfl⟩
                    rcases Nat.lt_or_ge j i with hlt | hge
                    · exact hup j h1 hlt
                    · obtain rfl : j = i := by omega
                      omega
              · have h1 : ((i : Int) < (l.length : Int)) = False := by simp only [eq_iff_iff, iff_false]; omega
                have : upB l = true := upB_all.2 fun j h1 h2 => hup j h1 (by omega)
                rw [this]
                simp only [go_sem, W_cond2, WO_guard3, WE_guard3, WQ_guard3, KB_n, KB_x, Nat.reduceBEq, Nat.reduceAdd, Nat.reduceLT, Nat.reduceLeDiff, Nat.reduceEqDiff, reduceIte, Int.reduceEq, reduceCtorEq, g0, g5, fx, List.length_map, h1]
                exact hbr _
            · simp only [go_sem, W_cond2, WO_guard3, WE_guard3, WQ_guard3, KB_n, KB_x, Nat.reduceBEq, Nat.reduceAdd, Nat.reduceLT, Nat.reduceLeDiff, Nat.reduceEqDiff, reduceIte, Int.reduceEq, reduceCtorEq]
              exact ⟨1, by omega, by omega, fun j h1 h2 => by omega, g0, rfl⟩
          · have e1 : (((flatK l).length : Int) ≠ ((l.length - 1 : Nat) : Int)) = True := by simp only [ne_eq, eq_iff_iff, iff_true]; omega
            rw [decide_eq_false hk, Bool.false_and]
            simp only [go_sem, W_cond2, WO_guard3, WE_guard3, WQ_guard3, KB_n, KB_x, Nat.reduceBEq, Nat.reduceAdd, Nat.reduceLT, Nat.reduceLeDiff, Nat.reduceEqDiff, reduceIte, Int.reduceEq, reduceCtorEq, g0, g3, g4, fx, List.length_map, h1, hsb, e1]
            exact hbr _
      · simp only [go_sem, W_cond2, WO_guard3, WE_guard3, WQ_guard3, KB_n, KB_x, Nat.reduceBEq, Nat.reduceAdd, Nat.reduceLT, Nat.reduceLeDiff, Nat.reduceEqDiff, reduceIte, Int.reduceEq, reduceCtorEq]
        exact ⟨0, by omega, fun a g ha => by omega, rfl, rfl, rfl⟩
end Go.Proofs.Ytgloinighjdhlaa

/-
  Rows of facts as boxes; the document's wrong and dir.
-/
set_option maxRecDepth 100000
set_option maxHeartbeats 2000000
set_option linter.unusedSimpArgs false
set_option linter.constructorNameAsVariable false
namespace Go.Proofs.Ytgloinighjdhlaa
open Go.Proofs.Ytgloinighjdhlaa.Am
attribute [local irreducible] W WO WE WQ WD Tr.get Tr.set
def Six (G : List (List AV)) : Prop := ∀ c ∈ G, c.length = 6
theorem six_map (l : List FT) : Six (l.map FT.cells) := fun c hc => by
  obtain ⟨f, _, rfl⟩ := List.mem_map.1 hc
  rfl
theorem flatC_agg : ∀ G : List (List AV), flatC (G.map AV.agg) = G.flatten
  | [] => rfl
  | c :: G => by
    simp only [List.map_cons, flatC, flatC_agg G, List.flatten_cons]
    rfl
theorem six_len {G : List (List AV)} (h : Six G) : G.flatten.length = G.length * 6 := by
  induction G with
  | nil => rfl
  | cons c G ih =>
    rw [List.flatten_cons, List.length_append, ih fun x hx => h x (List.mem_cons_of_mem _ hx), h c List.mem_cons_self, List.length_cons]
    omega
theorem chunk_six : ∀ {G : List (List AV)}, Six G → chunk 6 G.length G.flatten = G.map AV.agg
  | [], _ => rfl
  | c :: G, h => by
    have hc := h c List.mem_cons_self
    have := chunk_six (G := G) fun x hx => h x (List.mem_cons_of_mem _ hx)
    rw [List.length_cons, chunk, if_neg (by decide), List.flatten_cons, List.take_left' hc, List.drop_left' hc, this]
    rfl
theorem take_six {G : List (List AV)} (h : Six G) (i : Nat) (hi : i ≤ G.length) : G.flatten.take (i * 6) = (G.take i).flatten := by
  have : G.flatten = (G.take i).flatten ++ (G.drop i).flatten := by rw [← List.flatten_append, List.take_append_drop]
  rw [this]
  refine List.take_left' ?_
  rw [six_len fun c hc => h c (List.mem_of_mem_take hc), List.length_take, Nat.min_eq_left hi]
theorem drop_six {G : List (List AV)} (h : Six G) (i : Nat) (hi : i ≤ G.length) : G.flatten.drop (i * 6) = (G.drop i).flatten := by
  have : G.flatten = (G.take i).flatten ++ (G.drop i).flatten := by rw [← List.flatten_append, List.take_append_drop]
  rw [this]
  refine List.drop_left' ?_
  rw [six_len fun c hc => h c (List.mem_of_mem_take hc), List.length_take, Nat.min_eq_left hi]
theorem set_six {G : List (List AV)} (h : Six G) {i : Nat} (hi : i < G.length) (c : List AV) (hc : c.length = 6) : G.flatten.take (i * 6) ++ (c ++ G.flatten.drop (i * 6 + c.length)) = (G.set i c).flatten := by
  rw [hc, show i * 6 + 6 = (i + 1) * 6 by omega, take_six h i (by omega), drop_six h (i + 1) (by omega), List.set_eq_take_append_cons_drop, if_pos hi, List.flatten_append, List.flatten_cons]
theorem get_six {G : List (List AV)} (h : Six G) {i j : Nat} {c : List AV} (hi : G[i]? = some c) (hj : j < 6) : G.flatten[i * 6 + j]? = c[j]? := by
  have hlt := (List.getElem?_eq_some_iff.1 hi).1
  have h1 : (G.flatten.drop (i * 6))[j]? = c[j]? := by
    rw [drop_six h i (by omega)]
    have : G.drop i = c :: G.drop (i + 1) := by
      rw [List.drop_eq_getElem_cons hlt]
      rw [(List.getElem?_eq_some_iff.1 hi).2]
    rw [this, List.flatten_cons, List.getElem?_append_left (by rw [h c (List.mem_of_getElem? hi)]; exact hj)]
  rw [← h1, List.getElem?_drop]
theorem setc_six {G : List (List AV)} (h : Six G) {i j : Nat} {c : List AV} (hi : G[i]? = some c) (hj : j < 6) (v : AV) : G.flatten.set (i * 6 + j) v = (G.set i (c.set j v)).flatten := by
  have hlt := (List.getElem?_eq_some_iff.1 hi).1
  have hcl := h c (List.mem_of_getElem? hi)
  have h1 := set_six h hlt (c.set j v) (by rw [List.length_set]; exact hcl)
  rw [← h1, List.length_set, hcl]
  apply List.ext_getElem?
  intro k
  have hlen := six_len h
  rw [List.getElem?_set]
  by_cases hk : k < i * 6
  · rw [if_neg (by omega), List.getElem?_append_left (by rw [List.length_take]; omega), List.getElem?_take, if_pos hk]
  · obtain ⟨m, rfl⟩ : ∃ m, k = i * 6 + m := ⟨k - i * 6, by omega⟩
    rw [List.getElem?_append_right (by rw [List.length_take]; omega), List.length_take, show i * 6 + m - min (i * 6) G.flatten.length = m by omega]
    by_cases hm : m < 6
    · rw [List.getElem?_append_left (by rw [List.length_set]; omega), List.getElem?_set, get_six h hi hm]
      by_cases hjm : j = m
      · rw [if_pos (by omega), if_pos (by omega), if_pos hjm, if_pos (by omega)]
      · rw [if_neg (by omega), if_neg hjm]
    · rw [if_neg (by omega), List.getElem?_append_right (by rw [List.length_set]; omega), List.length_set, hcl, List.getElem?_drop]
      congr 1
      omega
def wrongE (l : List FT) (n : Int) : Int := if mayP l then (if 0 ≤ n ∧ n < (l.length : Int) then 0 else 1) else 4
theorem wrong_ok (l : List FT) (ho : ∀ f ∈ l, f.Ok) (hl : l.length < 2 ^ 34) (hB : (flatK l).length < 2 ^ 62) (n : Int) (s : St) (hw : Wf s) : (lim prog).call f_touchstoneref22_wrong [fx l, .i .i64 n] s = some (.i .i64 (wrongE l n), s) := by
  refine fn_W p_touchstoneref22_wrong rfl rfl ?_
  have hz0 : wkZ c_touchstoneref22_wrong.cin [fx l, .i .i64 n] = [fx l, .i .i64 n] := by
    simp only [c_touchstoneref22_wrong, wkZ, fx, wk]
  have hbr : ∀ z, KR s [.id] (.i .i64 z) (some ([.i .i64 z], s.enter)) := fun z => KR_some (Over.enter s) rfl rfl
  have hm := ref20may_ok l ho hl hB s.enter hw.enter
  rw [hz0]
  unfold fx at hm
  unfold wrongE
  cases hmay : mayP l
  · rw [hmay] at hm
    simp only [c_touchstoneref22_wrong, go_sem, W_cond2, WO_guard3, WE_guard3, WQ_guard3, KB_n, KB_x, Nat.reduceBEq, Nat.reduceAdd, Nat.reduceLT, Nat.reduceLeDiff, Nat.reduceEqDiff, reduceIte, Int.reduceEq, reduceCtorEq, fx, hm]
    exact hbr _
  · rw [hmay] at hm
    rw [if_pos rfl]
    by_cases n1 : n < 0
    · have e1 : (n < 0) = True := by simp [n1]
      rw [if_neg (by omega)]
      simp only [c_touchstoneref22_wrong, go_sem, W_cond2, WO_guard3, WE_guard3, WQ_guard3, KB_n, KB_x, Nat.reduceBEq, Nat.reduceAdd, Nat.reduceLT, Nat.reduceLeDiff, Nat.reduceEqDiff, reduceIte, Int.reduceEq, reduceCtorEq, fx, hm, e1]
      exact hbr _
    · have e1 : (n < 0) = False := by simp only [eq_iff_iff, iff_false]; exact n1
      by_cases n2 : (l.length : Int) ≤ n
      · have e2 : ((l.length : Int) ≤ n) = True := by simp [n2]
        rw [if_neg (by omega)]
        simp only [c_touchstoneref22_wrong, go_sem, W_cond2, WO_guard3, WE_guard3, WQ_guard3, KB_n, KB_x, Nat.reduceBEq, Nat.reduceAdd, Nat.reduceLT, Nat.reduceLeDiff, Nat.reduceEqDiff, reduceIte, Int.reduceEq, reduceCtorEq, fx, List.length_map, hm, e1, e2]
        exact hbr _
      · have e2 : ((l.length : Int) ≤ n) = False := by simp only [eq_iff_iff, iff_false]; exact n2
        rw [if_pos (by omega)]
        simp only [c_touchstoneref22_wrong, go_sem, W_cond2, WO_guard3, WE_guard3, WQ_guard3, KB_n, KB_x, Nat.reduceBEq, Nat.reduceAdd, Nat.reduceLT, Nat.reduceLeDiff, Nat.reduceEqDiff, reduceIte, Int.reduceEq, reduceCtorEq, fx, List.length_map, hm, e1, e2]
        exact hbr _
def dirE (l : List FT) (n : Int) : Int := if wrongE l n = 0 then (match l[n.toNat]? with | some f => if f.isDir then 0 else 1 | none => 0) else wrongE l n
theorem wrong_zero {l : List FT} {n : Int} (h : wrongE l n = 0) : mayP l = true ∧ ∃ (i : Nat) (f : FT), n = (i : Int) ∧ l[i]? = some f := by
  unfold wrongE at h
  split at h
  · split at h
    · rename_i h1 h2
      exact ⟨h1, n.toNat, l[n.toNat]'(by omega), by omega, List.getElem?_eq_getElem (by omega)⟩
    · cases h
  · cases h
theorem ref22dir_ok (l : List FT) (ho : ∀ f ∈ l, f.Ok) (hl : l.length < 2 ^ 34) (hB : (flatK l).length < 2 ^ 62) (n : Int) (s : St) (hw : Wf s) : (lim prog).call f_touchstoneref22_dir [fx l, .i .i64 n] s = some (.i .i64 (dirE l n), s) := by
  refine fn_W p_touchstoneref22_dir rfl rfl ?_
  have hz0 : wkZ c_touchstoneref22_dir.cin [fx l, .i .i64 n] = [fx l, .i .i64 n] := by
    simp only [c_touchstoneref22_dir, wkZ, fx, wk]
  have hbr : ∀ z, KR s [.id] (.i .i64 z) (some ([.i .i64 z], s.enter)) := fun z => KR_some (Over.enter s) rfl rfl
  have hth : ∀ u : St, thawA u (.ws false 6 (l.map FT.av)) = some (.ws false 6 (l.map FT.av), u) := fun _ => rfl
  have hm := wrong_ok l ho hl hB n s.enter hw.enter
  rw [hz0]
  unfold fx at hm
  unfold dirE
  by_cases hwr : wrongE l n = 0
  · obtain ⟨_, i, f, rfl, hf⟩ := wrong_zero hwr
    have hg2 := fx_get hf
    have l0 : ∀ u, ldA u false 1 (.ep f.cells 0 .shut) = some (.b f.known) := fun u => rfl
    have l1 : ∀ u, ldA u false 1 (.ep f.cells 1 .shut) = some (.i .u8 (f.kind : Nat)) := fun u => rfl
    rw [hwr] at hm
    rw [if_pos hwr, Int.toNat_natCast, hf]
    show W _ _ _ _ (KF s _ _ (.i .i64 (if f.isDir then 0 else 1)))
    cases hk : f.known
    · rw [hk] at l0
      have hi : f.isDir = false := by unfold FT.isDir; rw [hk]; rfl
      rw [hi]
      simp only [c_touchstoneref22_dir, go_sem, W_cond2, WO_guard3, WE_guard3, WQ_guard3, KB_n, KB_x, Nat.reduceBEq, Nat.reduceAdd, Nat.reduceLT, Nat.reduceLeDiff, Nat.reduceEqDiff, reduceIte, Int.reduceEq, reduceCtorEq, fx, hm, hth, natOf_nat, hg2, cl_agg, l0, l1]
      exact hbr _
    · rw [hk] at l0
      by_cases k2 : f.kind = 2
      · have e1 : ((f.kind : Int) ≠ 2) = False := by simp [k2]
        have hi : f.isDir = true := by unfold FT.isDir; rw [hk, k2]; rfl
        rw [hi]
        simp only [c_touchstoneref22_dir, go_sem, W_cond2, WO_guard3, WE_guard3, WQ_guard3, KB_n, KB_x, Nat.reduceBEq, Nat.reduceAdd, Nat.reduceLT, Nat.reduceLeDiff, Nat.reduceEqDiff, reduceIte, Int.reduceEq, reduceCtorEq, fx, hm, hth, natOf_nat, hg2, cl_agg, l0, l1, e1]
        exact hbr _
      · have e1 : ((f.kind : Int) ≠ 2) = True := by simp only [ne_eq, eq_iff_iff, iff_true]; omega
        have hi : f.isDir = false := by unfold FT.isDir; rw [hk, decide_eq_false k2]; rfl
        rw [hi]
        simp only [c_touchstoneref22_dir, go_sem, W_cond2, WO_guard3, WE_guard3, WQ_guard3, KB_n, KB_x, Nat.reduceBEq, Nat.reduceAdd, Nat.reduceLT, Nat.reduceLeDiff, Nat.reduceEqDiff, reduceIte, Int.reduceEq, reduceCtorEq, fx, hm, hth, natOf_nat, hg2, cl_agg, l0, l1, e1]
        exact hbr _
  · have e1 : (wrongE l n = 0) = False := by simp [hwr]
    rw [if_neg hwr]
    simp only [c_touchstoneref22_dir, go_sem, W_cond2, WO_guard3, WE_guard3, WQ_guard3, KB_n, KB_x, Nat.reduceBEq, Nat.reduceAdd, Nat.reduceLT, Nat.reduceLeDiff, Nat.reduceEqDiff, reduceIte, Int.reduceEq, reduceCtorEq, fx, hm, hth, e1]
    exact hbr _
end Go.Proofs.Ytgloinighjdhlaa

/-
  Rows of facts as boxes: written into, and told; the document's with.
-/
set_option maxRecDepth 100000
set_option maxHeartbeats 2000000
set_option linter.unusedSimpArgs false
set_option linter.constructorNameAsVariable false
namespace Go.Proofs.Ytgloinighjdhlaa
open Go.Proofs.Ytgloinighjdhlaa.Am
attribute [local irreducible] W WO WE WQ WD Tr.get Tr.set
section
variable {s0 s : St} {n : En} {R : List RA} {B : List (Nat × Box)}
theorem _root_.Go.Proofs.Ytgloinighjdhlaa.Am.Hp.strw (H : Hp s0 s n R B) (i : Nat) {id T off m rm : Nat} {cs : List AV} {v : AV} (h : B[i]? = some (id, .row T cs false rm)) (hoff : off + m ≤ cs.length) (hv : v.cells.length = m ∧ ones v.cells = true) :
    ∃ s', stA s m (.p id off) v = some s' ∧ Hp s0 s' n R (B.set i (id, .row T (cs.take off ++ (v.cells ++ cs.drop (off + v.cells.length))) false rm)) ∧ s'.nb = s.nb := by
  have hb : (B.set i (id, Box.row T (cs.take off ++ (v.cells ++ cs.drop (off + v.cells.length))) false rm))[i]? = some (id, .row T (cs.take off ++ (v.cells ++ cs.drop (off + v.cells.length))) false rm) := by
    rw [List.getElem?_set, if_pos rfl, if_pos (by rw [List.getElem?_eq_some_iff] at h; exact h.1)]
  obtain ⟨h1, h2, _⟩ := (H.setBox h (.row T (cs.take off ++ (v.cells ++ cs.drop (off + v.cells.length))) false rm)).esc hb v
  refine ⟨_, ?_, h1, h2⟩
  have hbx := (H.box h).1
  simp only at hbx
  have : Am.overR cs off v.cells rm = some (cs.take off ++ (v.cells ++ cs.drop (off + v.cells.length))) := by
    unfold Am.overR
    rw [if_pos (by omega)]
  simp only [stA, hbx, hv, and_self, if_true, this]
end
theorem ones_ap6 : ∀ {a b : List AV}, ones a = true → ones b = true → ones (a ++ b) = true
  | [], _, _, h => h
  | x :: a, b, h, h2 => by
    have ha : ones a = true ∧ ∀ l, ones (x :: l) = ones l := by cases x <;> simp [ones] at h ⊢ <;> exact h
    rw [List.cons_append, ha.2]
    exact ones_ap6 ha.1 h2
theorem ones_fl6 : ∀ {G : List (List AV)}, (∀ c ∈ G, ones c = true) → ones G.flatten = true
  | [], _ => rfl
  | c :: G, h => ones_ap6 (h c List.mem_cons_self) (ones_fl6 fun x hx => h x (List.mem_cons_of_mem _ hx))
theorem frz_six {s : St} {G : List (List AV)} (h6 : Six G) (ho : ∀ c ∈ G, ones c = true) {id T rm : Nat} {fz : Bool} {p : Nat × Bool} (hb : s.box? id = some (.row T G.flatten fz rm)) :
    frz s (.bl id 6 0 G.length p) = some (.sl 6 (G.map AV.agg) .shut, s.setBox id (.row T G.flatten true rm)) := by
  have hc : cut G.flatten 0 (G.length * 6) = some G.flatten := by
    unfold cut
    rw [List.drop_zero, List.take_of_length_le (by rw [six_len h6]; exact Nat.le_refl _), if_pos (six_len h6)]
  simp only [frz, hb, hc]
  rw [if_pos ⟨Nat.zero_le _, ones_fl6 ho, by decide⟩, chunk_six h6]
theorem wkM_agg (l : List FT) (G : List (List AV)) (h : G.map (fun c => wkZ [CT.id, .id, (.sl 1 .id), (.sl 1 .id), .id, .id] c) = l.map FT.cells) : wkM (.agg [.id, .id, (.sl 1 .id), (.sl 1 .id), .id, .id]) (G.map AV.agg) = l.map FT.av := by
  induction G generalizing l with
  | nil =>
    cases l with
    | nil => simp only [List.map_nil, wkM]
    | cons f l => cases h
  | cons c G ih =>
    cases l with
    | nil => cases h
    | cons f l =>
      simp only [List.map_cons, List.cons.injEq] at h
      simp only [List.map_cons, wkM, ih l h.2, wk, h.1]
      rfl
theorem wkZ_F (f : FT) : wkZ [CT.id, .id, (.sl 1 .id), (.sl 1 .id), .id, .id] f.cells = f.cells := by
  simp only [FT.cells, wkZ, wk, zx, tx]
theorem ones_F (f : FT) : ones f.cells = true := rfl
theorem elems_fx (s : St) (l : List FT) : elems s 6 (fx l) = some (l.map FT.av) := by
  simp [elems, fx]
theorem map_agg (l : List FT) : (l.map FT.cells).map AV.agg = l.map FT.av := by
  rw [List.map_map]; rfl
theorem refs_F (f : FT) : f.av.refs = false := by
  simp only [FT.av, FT.cells, AV.refs, AV.refs.go, tx, zx, refs_goS, refs_goI]
  rfl
theorem refs_goF : ∀ l : List FT, AV.refs.go (l.map FT.av) = false
  | [] => rfl
  | f :: l => by
    simp only [List.map_cons, AV.refs.go, refs_goF l, refs_F f]
    rfl
theorem with_ok (l : List FT) (hl : l.length < 2 ^ 34) {i : Nat} (hi : i < l.length) (f : FT) {c : List AV} (hc : wkZ [CT.id, .id, (.sl 1 .id), (.sl 1 .id), .id, .id] c = f.cells) (s : St) (hw : Wf s) : (lim prog).call f_touchstoneref22_with [fx l, .i .i64 (i : Nat), .agg c] s = some (fx (l.set i f), s) := by
  refine fn_W p_touchstoneref22_with rfl rfl ?_
  have hz0 : wkZ c_touchstoneref22_with.cin [fx l, .i .i64 (i : Nat), .agg c] = [fx l, .i .i64 (i : Nat), .agg f.cells] := by
    rw [show c_touchstoneref22_with.cin = [(.sl 6 (.agg [.id, .id, (.sl 1 .id), (.sl 1 .id), .id, .id])), .id, (.agg [.id, .id, (.sl 1 .id), (.sl 1 .id), .id, .id])] from rfl]
    rw [wkZ, wkZ, wkZ]
    simp only [wk, fx, hc, wkZ]
  rw [hz0]
  have H1 := (Hp.begin hw).new (.cells 60 f.cells)
  generalize hq : s.enter.new (.cells 60 f.cells) = q at H1
  generalize hm : s.enter.nb = m at H1
  obtain ⟨a2, q2, d2, H2, n2, p2⟩ := H1.appN (es := 6) 60 (a := .sl 6 [] .full) (xs := []) (.inr (.inr (.inl rfl))) (elems_fx q l) (by simp; omega)
  have p2 := p2 (by intro hh; rw [List.map_eq_nil_iff] at hh; subst hh; simp at hi)
  rw [List.nil_append] at H2
  obtain ⟨q3, d3, H3, n3⟩ := H2.thaw 0 rfl p2.1 [] (by simp) (by simp)
  rw [← map_agg, flatC_agg] at H3
  rw [List.length_map] at d3
  generalize hid : q2.nb = id at d3 H3
  have hlen := six_len (six_map l)
  rw [List.length_map] at hlen
  obtain ⟨q4, d4, H4, n4⟩ := H3.strw 0 (off := i * 6) (m := 6) (v := .agg f.cells) rfl (by rw [hlen]; omega) ⟨rfl, rfl⟩
  have lw := H3.ldw (m := 6) 1 rfl rfl
  have hset := set_six (six_map l) (i := i) (by simpa using hi) f.cells rfl
  rw [show (AV.agg f.cells).cells = f.cells from rfl, hset, ← List.map_set] at H4
  have hbx := (H4.box (i := 0) rfl).1
  have hfz := frz_six (six_map (l.set i f)) (fun c hc => by obtain ⟨g, _, rfl⟩ := List.mem_map.1 hc; exact ones_F g) (p := (l.length * 6, false)) hbx
  rw [List.length_map, List.length_set, map_agg] at hfz
  have hlt : (i < l.length) = True := by simp [hi]
  have hal0 : allLen 6 [] = true := rfl
  unfold fx at d2
  simp only [c_touchstoneref22_with, go_sem, W_cond2, WO_guard3, WE_guard3, WQ_guard3, KB_n, KB_x, Nat.reduceBEq, Nat.reduceAdd, Nat.reduceLT, Nat.reduceLeDiff, Nat.reduceEqDiff, reduceIte, Int.reduceEq, reduceCtorEq, cells6, hq, hm, fx, hal0, d2, d3, lw, natOf_nat, hlt, Nat.zero_add, pub_cells6, d4]
  have hpa : pubA q4 (.bl id 6 0 l.length (l.length * 6, false)) = _ := hfz
  rw [hpa]
  have H5 := H4.setBox (i := 0) rfl (.row 60 ((l.set i f).map FT.cells).flatten true 0)
  refine KR_some H5.over (by simp only [tupOf, AV.refs, refs_goF]) ?_
  have hwk := wkM_agg (l.set i f) ((l.set i f).map FT.cells) (by
    rw [List.map_map]
    exact List.map_congr_left fun g _ => wkZ_F g)
  rw [map_agg] at hwk
  simp only [wkZ, wk, hwk]
  rfl
end Go.Proofs.Ytgloinighjdhlaa

/-
  Parts of rows; sorting by putting in.
-/
set_option maxRecDepth 100000
set_option maxHeartbeats 2000000
set_option linter.unusedSimpArgs false
set_option linter.constructorNameAsVariable false
namespace Go.Proofs.Ytgloinighjdhlaa
open Go.Proofs.Ytgloinighjdhlaa.Am
section
variable {s0 s : St} {n : En} {R : List RA} {B : List (Nat × Box)}
theorem _root_.Go.Proofs.Ytgloinighjdhlaa.Am.Hp.slc (H : Hp s0 s n R B) (i : Nat) {es T : Nat} {a : AV} {xs : List AV} {fr : Bool} (h : R[i]? = some ⟨es, T, a, xs, fr⟩) {lo hi : Option AV} {p q : Nat} (hb : bounds xs.length lo hi = some (p, q)) :
    ∃ a' s', sliceA s false es a lo hi none = some (a', s') ∧ elems s' es a' = some ((xs.drop p).take (q - p)) ∧ (Told1 es a' ((xs.drop p).take (q - p)) ∨ (a' = a ∧ (xs.drop p).take (q - p) = xs)) ∧ (∃ fr', Hp s0 s' n (R.set i ⟨es, T, a, xs, fr'⟩) B) ∧ s'.nb = s.nb := by
  have hself : R.set i ⟨es, T, a, xs, fr⟩ = R := by
    apply List.ext_getElem?
    intro j
    rw [List.getElem?_set]
    by_cases hj : i = j
    · subst hj
      rw [if_pos rfl, if_pos (List.getElem?_eq_some_iff.1 h).1, h]
    · rw [if_neg hj]
  have hH : ∃ fr', Hp s0 s n (R.set i ⟨es, T, a, xs, fr'⟩) B := ⟨fr, by rw [hself]; exact H⟩
  have hbl : ∀ {p q : Nat}, bounds 0 lo hi = some (p, q) → p = 0 ∧ q = 0 := by
    intro p q hh
    unfold bounds at hh
    simp only at hh
    split at hh
    · split at hh
      · rename_i hq
        cases hh
        omega
      · cases hh
    · cases hh
  rcases H.rows h with (⟨h1, h2⟩ | ⟨h1, h2⟩ | h1 | h1) | ⟨k, v, t, ha, k1, k2, k3, k4, k5, k6, k7⟩
  · simp only at h1 h2; subst h1; subst h2
    rw [List.length_nil] at hb
    obtain ⟨rfl, rfl⟩ := hbl hb
    exact ⟨.nsl, s, by simp only [sliceA, hb], rfl, .inl (.inl ⟨rfl, rfl⟩), hH, rfl⟩
  · simp only at h1 h2; subst h1; subst h2
    rw [List.length_nil] at hb
    obtain ⟨rfl, rfl⟩ := hbl hb
    exact ⟨.wz, s, by simp only [sliceA, hb], rfl, .inl (.inr (.inl ⟨rfl, rfl⟩)), hH, rfl⟩
  · simp only at h1; subst h1
    by_cases hw : p = 0 ∧ q = xs.length
    · have hys : (xs.drop p).take (q - p) = xs := by rw [hw.1, hw.2]; simp
      refine ⟨.sl es xs .full, s, ?_, ?_, .inr ⟨rfl, hys⟩, hH, rfl⟩
      · simp only [sliceA, if_true, hb]
        rw [if_pos hw]
      · rw [hys]; simp [elems, St.ok]
    · by_cases hq : q = xs.length
      · refine ⟨.sl es ((xs.drop p).take (q - p)) .full, s, ?_, by simp [elems, St.ok], .inl (.inr (.inr (.inl rfl))), hH, rfl⟩
        simp only [sliceA, if_true, hb]
        rw [if_neg hw, if_pos hq]
      · refine ⟨.sl es ((xs.drop p).take (q - p)) .shut, s, ?_, by simp [elems, St.ok], .inl (.inr (.inr (.inr (.inl rfl)))), hH, rfl⟩
        simp only [sliceA, if_true, hb]
        rw [if_neg hw, if_neg hq]
  · simp only at h1; subst h1
    by_cases hw : p = 0 ∧ q = xs.length
    · have hys : (xs.drop p).take (q - p) = xs := by rw [hw.1, hw.2]; simp
      refine ⟨.ws true es xs, s, ?_, ?_, .inr ⟨rfl, hys⟩, hH, rfl⟩
      · simp only [sliceA, if_true, hb]
        rw [if_pos hw]
      · rw [hys]; simp [elems]
    · refine ⟨.ws false es ((xs.drop p).take (q - p)), s, ?_, by simp [elems], .inl (.inr (.inr (.inr (.inr (.inr rfl))))), hH, rfl⟩
      simp only [sliceA, if_true, hb]
      rw [if_neg hw]
  · simp only at ha k5 k6 k7
    subst ha
    by_cases hw : p = 0 ∧ q = xs.length
    · have hys : (xs.drop p).take (q - p) = xs := by rw [hw.1, hw.2]; simp
      refine ⟨.sl es xs (.tok k v), s, ?_, ?_, .inr ⟨rfl, hys⟩, hH, rfl⟩
      · simp only [sliceA, if_true, hb]
        rw [if_pos hw]
      · rw [hys]; simp [elems, St.ok, k3, k4]
    · refine ⟨.sl es ((xs.drop p).take (q - p)) .shut, s.setTok k { t with pub := max t.pub xs.length }, ?_, by simp [elems, St.ok], .inl (.inr (.inr (.inr (.inl rfl)))), ⟨false, ?_⟩, rfl⟩
      · simp only [sliceA, if_true, hb, k3, k4, Bool.false_and, Bool.false_eq_true, if_false]
        rw [if_neg hw]
      · exact H.setTok h rfl k3 xs { t with pub := max t.pub xs.length } v false k4 k5 rfl (fun hh => by cases hh)
end
theorem sortZ_of {L M : List Int} (hp : L.Perm M) (hs : L.Pairwise (· ≤ ·)) : sortZ M = L := by
  unfold sortZ
  have h1 : (M.mergeSort fun x y => decide (x ≤ y)).Pairwise (· ≤ ·) := by
    have := List.pairwise_mergeSort (le := fun x y : Int => decide (x ≤ y)) (fun a b c h1 h2 => by simp at *; omega) (fun a b => by simp; omega) M
    refine this.imp ?_
    intro a b h
    simpa using h
  exact List.Perm.eq_of_pairwise (le := (· ≤ ·)) (fun a b _ _ h1 h2 => by omega) h1 hs ((List.mergeSort_perm M _).trans hp.symm)
theorem put_in {L : List Int} {x : Int} {a : Nat} (hs : L.Pairwise (· ≤ ·)) (ha : a ≤ L.length) (h1 : ∀ j y, a ≤ j → L[j]? = some y → x < y) (h2 : a = 0 ∨ ∃ y, L[a - 1]? = some y ∧ y ≤ x) : (L.take a ++ ([x] ++ L.drop a)).Pairwise (· ≤ ·) ∧ (L.take a ++ ([x] ++ L.drop a)).Perm (L ++ [x]) := by
  constructor
  · rw [List.pairwise_append]
    refine ⟨hs.sublist (List.take_sublist a L), ?_, ?_⟩
    · rw [List.singleton_append, List.pairwise_cons]
      refine ⟨fun y hy => ?_, hs.sublist (List.drop_sublist a L)⟩
      obtain ⟨j, hj, rfl⟩ := List.mem_iff_getElem.1 hy
      rw [List.getElem_drop]
      rw [List.length_drop] at hj
      have := h1 (a + j) (L[a + j]'(by omega)) (by omega) (List.getElem?_eq_getElem (by omega))
      omega
    · intro y hy z hz
      have hyx : y ≤ x := by
        rcases h2 with rfl | ⟨w, hw, hwx⟩
        · simp at hy
        · obtain ⟨j, hj, rfl⟩ := List.mem_iff_getElem.1 hy
          rw [List.length_take] at hj
          rw [List.getElem_take]
          have hw' := List.getElem?_eq_some_iff.1 hw
          obtain ⟨hlt, hwe⟩ := hw'
          by_cases hja : j = a - 1
          · subst hja; omega
          · have := List.pairwise_iff_getElem.1 hs j (a - 1) (by omega) hlt (by omega)
            omega
      rcases List.mem_append.1 hz with hz | hz
      · rw [List.mem_singleton] at hz; omega
      · obtain ⟨j, hj, rfl⟩ := List.mem_iff_getElem.1 hz
        rw [List.getElem_drop]
        rw [List.length_drop] at hj
        have := h1 (a + j) (L[a + j]'(by omega)) (by omega) (List.getElem?_eq_getElem (by omega))
        omega
  · have h3 : (L ++ [x]).Perm (L.take a ++ L.drop a ++ [x]) := by rw [List.take_append_drop]
    refine List.Perm.trans ?_ h3.symm
    rw [List.append_assoc]
    exact List.Perm.append_left _ List.perm_append_comm
end Go.Proofs.Ytgloinighjdhlaa

/-
  The document's Beside.
-/
set_option maxRecDepth 100000
set_option maxHeartbeats 4000000
set_option linter.unusedSimpArgs false
set_option linter.constructorNameAsVariable false
namespace Go.Proofs.Ytgloinighjdhlaa
open Go.Proofs.Ytgloinighjdhlaa.Am
attribute [local irreducible] W WO WE WQ WD Tr.get Tr.set
theorem rowH_len {t0 : Nat} {s : St} {r : RA} (h : RowH t0 s r) (q : St) : lenA q 1 r.a = some (.i .i64 (r.xs.length : Nat)) := by
  rcases h with (⟨h, h2⟩ | ⟨h, h2⟩ | h | h) | ⟨k, v, t, h, _⟩ <;> rw [h] <;> (try rw [h2]) <;> rfl
theorem bes_in {s q : St} {n : En} {a : AV} {L : List Int} {fr : Bool} {m : Nat} {f : FT} (H : Hp s q n [⟨1, 3, a, L.map iv, fr⟩] [(m, .cells 60 f.cells)]) (hL : L.length < 2 ^ 36) {i : Nat} {x : Int} (hx : f.kids[i]? = some x)
    {e : Tr} {Q : Ex → Tr → St → Prop} (h1 : e.get 1 = .p m 0) (h3 : e.get 3 = a) (h4 : e.get 4 = .i .i64 (i : Nat)) (h5 : e.get 5 = .i .i64 (L.length : Nat))
    (k : ∀ (e' : Tr) (b : Nat), e'.get 1 = .p m 0 → e'.get 3 = a → e'.get 4 = .i .i64 (i : Nat) → e'.get 5 = .i .i64 (b : Nat) → b ≤ L.length → (∀ j y, b ≤ j → L[j]? = some y → x < y) → (b = 0 ∨ ∃ y, L[b - 1]? = some y ∧ y ≤ x) → Q (.x 2) e' q) :
    W (lim prog) (subC c_touchstoneref22_Beside.body [1, 1, 0, 1, 0, 0, 1, 0, 0, 1, 0, 0]) e q Q := by
  have l3 := H.ld 0 (off := 3) (v := zx f.kids) rfl rfl
  have hx2 := iv_get hx
  unfold zx at l3
  simp only [c_touchstoneref22_Beside, subC, go_sem, W_cond2, WO_guard3, WE_guard3, WQ_guard3, KB_n, KB_x, Nat.reduceBEq, Nat.reduceAdd, Nat.reduceLT, Nat.reduceLeDiff, Nat.reduceEqDiff, reduceIte, Int.reduceEq, reduceCtorEq]
  refine W_loop (fun y e q' => ∃ b : Nat, b = y ∧ b ≤ L.length ∧ q' = q ∧ (∀ j z, b ≤ j → L[j]? = some z → x < z) ∧ e.get 1 = .p m 0 ∧ e.get 3 = a ∧ e.get 4 = .i .i64 (i : Nat) ∧ e.get 5 = .i .i64 (b : Nat)) ?_ L.length _ _ ?_
  · clear h1 h3 h4 h5
    rintro y e q' ⟨b, rfl, hbl, rfl, hgt, g1, g3, g4, g5⟩
    by_cases hb : b = 0
    · subst hb
      have e1 : ((0 : Int) < ((0 : Nat) : Int)) = False := by simp
      simp only [go_sem, W_cond2, WO_guard3, WE_guard3, WQ_guard3, KB_n, KB_x, Nat.reduceBEq, Nat.reduceAdd, Nat.reduceLT, Nat.reduceLeDiff, Nat.reduceEqDiff, reduceIte, Int.reduceEq, reduceCtorEq, g1, g3, g4, g5, e1]
      refine k _ 0 ?_ ?_ ?_ ?_ hbl hgt (.inl rfl) <;> simp only [go_sem, W_cond2, WO_guard3, WE_guard3, WQ_guard3, KB_n, KB_x, Nat.reduceBEq, Nat.reduceAdd, Nat.reduceLT, Nat.reduceLeDiff, Nat.reduceEqDiff, reduceIte, Int.reduceEq, reduceCtorEq, g1, g3, g4, g5]
    · have e1 : ((0 : Int) < (b : Int)) = True := by simp only [eq_iff_iff, iff_true]; omega
      have hsb : IntKind.i64.wrap ((b : Int) - 1) = ((b - 1 : Nat) : Int) := by
        rw [show (b : Int) - 1 = ((b - 1 : Nat) : Int) by omega]; exact wrap_nat (by omega)
      obtain ⟨z, hz⟩ : ∃ z, L[b - 1]? = some z := ⟨_, List.getElem?_eq_getElem (by omega)⟩
      have hz2 := iv_get hz
      rcases H.rows (i := 0) rfl with (⟨hh, h2⟩ | ⟨hh, h2⟩ | hh | hh) | ⟨kk, v, t, hh, k1, k2, k3, k4, k5, k6, k7⟩
      · simp at h2; subst h2; simp at hz
      · simp at h2; subst h2; simp at hz
      · simp only at hh
        have lr : ldA q' false 1 (.ep [AV.i .i64 z] 0 .full) = some (.i .i64 z) := rfl
        rw [hh] at g3
        by_cases hxz : x < z
        · have e2 : (x < z) = True := by simp [hxz]
          simp only [go_sem, W_cond2, WO_guard3, WE_guard3, WQ_guard3, KB_n, KB_x, Nat.reduceBEq, Nat.reduceAdd, Nat.reduceLT, Nat.reduceLeDiff, Nat.reduceEqDiff, reduceIte, Int.reduceEq, reduceCtorEq, g1, g3, g4, g5, e1, hsb, natOf_nat, hz2, hx2, cells_iv, l3, ldA_1, lr, e2]
          refine ⟨b - 1, by omega, b - 1, rfl, by omega, fun j w hj hw => ?_, hh.symm, rfl⟩
          by_cases hjb : j = b - 1
          · subst hjb
            rw [hz] at hw; cases hw; exact hxz
          · exact hgt j w (by omega) hw
        · have e2 : (x < z) = False := by simp only [eq_iff_iff, iff_false]; exact hxz
          simp only [go_sem, W_cond2, WO_guard3, WE_guard3, WQ_guard3, KB_n, KB_x, Nat.reduceBEq, Nat.reduceAdd, Nat.reduceLT, Nat.reduceLeDiff, Nat.reduceEqDiff, reduceIte, Int.reduceEq, reduceCtorEq, g1, g3, g4, g5, e1, hsb, natOf_nat, hz2, hx2, cells_iv, l3, ldA_1, lr, e2]
          refine k _ b ?_ ?_ ?_ ?_ hbl hgt (.inr ⟨z, hz, by omega⟩) <;> simp only [go_sem, W_cond2, WO_guard3, WE_guard3, WQ_guard3, KB_n, KB_x, Nat.reduceBEq, Nat.reduceAdd, Nat.reduceLT, Nat.reduceLeDiff, Nat.reduceEqDiff, reduceIte, Int.reduceEq, reduceCtorEq, g1, g3, g4, g5, hh]
      · simp only at hh
        have lr : ldA q' false 1 (.ep [AV.i .i64 z] 0 .shut) = some (.i .i64 z) := rfl
        rw [hh] at g3
        by_cases hxz : x < z
        · have e2 : (x < z) = True := by simp [hxz]
          simp only [go_sem, W_cond2, WO_guard3, WE_guard3, WQ_guard3, KB_n, KB_x, Nat.reduceBEq, Nat.reduceAdd, Nat.reduceLT, Nat.reduceLeDiff, Nat.reduceEqDiff, reduceIte, Int.reduceEq, reduceCtorEq, g1, g3, g4, g5, e1, hsb, natOf_nat, hz2, hx2, cells_iv, l3, ldA_1, lr, e2]
          refine ⟨b - 1, by omega, b - 1, rfl, by omega, fun j w hj hw => ?_, hh.symm, rfl⟩
          by_cases hjb : j = b - 1
          · subst hjb
            rw [hz] at hw; cases hw; exact hxz
          · exact hgt j w (by omega) hw
        · have e2 : (x < z) = False := by simp only [eq_iff_iff, iff_false]; exact hxz
          simp only [go_sem, W_cond2, WO_guard3, WE_guard3, WQ_guard3, KB_n, KB_x, Nat.reduceBEq, Nat.reduceAdd, Nat.reduceLT, Nat.reduceLeDiff, Nat.reduceEqDiff, reduceIte, Int.reduceEq, reduceCtorEq, g1, g3, g4, g5, e1, hsb, natOf_nat, hz2, hx2, cells_iv, l3, ldA_1, lr, e2]
          refine k _ b ?_ ?_ ?_ ?_ hbl hgt (.inr ⟨z, hz, by omega⟩) <;> simp only [go_sem, W_cond2, WO_guard3, WE_guard3, WQ_guard3, KB_n, KB_x, Nat.reduceBEq, Nat.reduceAdd, Nat.reduceLT, Nat.reduceLeDiff, Nat.reduceEqDiff, reduceIte, Int.reduceEq, reduceCtorEq, g1, g3, g4, g5, hh]
      · simp only at hh
        have lr : ldA q' false 1 (.ep [AV.i .i64 z] 0 (.tok kk v)) = some (.i .i64 z) := by
          simp [ldA, St.ok, k3, k4, cut, scal]
        rw [hh] at g3
        by_cases hxz : x < z
        · have e2 : (x < z) = True := by simp [hxz]
          simp only [go_sem, W_cond2, WO_guard3, WE_guard3, WQ_guard3, KB_n, KB_x, Nat.reduceBEq, Nat.reduceAdd, Nat.reduceLT, Nat.reduceLeDiff, Nat.reduceEqDiff, reduceIte, Int.reduceEq, reduceCtorEq, g1, g3, g4, g5, e1, hsb, natOf_nat, hz2, hx2, cells_iv, l3, ldA_1, lr, e2]
          refine ⟨b - 1, by omega, b - 1, rfl, by omega, fun j w hj hw => ?_, hh.symm, rfl⟩
          by_cases hjb : j = b - 1
          · subst hjb
            rw [hz] at hw; cases hw; exact hxz
          · exact hgt j w (by omega) hw
        · have e2 : (x < z) = False := by simp only [eq_iff_iff, iff_false]; exact hxz
          simp only [go_sem, W_cond2, WO_guard3, WE_guard3, WQ_guard3, KB_n, KB_x, Nat.reduceBEq, Nat.reduceAdd, Nat.reduceLT, Nat.reduceLeDiff, Nat.reduceEqDiff, reduceIte, Int.reduceEq, reduceCtorEq, g1, g3, g4, g5, e1, hsb, natOf_nat, hz2, hx2, cells_iv, l3, ldA_1, lr, e2]
          refine k _ b ?_ ?_ ?_ ?_ hbl hgt (.inr ⟨z, hz, by omega⟩) <;> simp only [go_sem, W_cond2, WO_guard3, WE_guard3, WQ_guard3, KB_n, KB_x, Nat.reduceBEq, Nat.reduceAdd, Nat.reduceLT, Nat.reduceLeDiff, Nat.reduceEqDiff, reduceIte, Int.reduceEq, reduceCtorEq, g1, g3, g4, g5, hh]
  · simp only [go_sem, W_cond2, WO_guard3, WE_guard3, WQ_guard3, KB_n, KB_x, Nat.reduceBEq, Nat.reduceAdd, Nat.reduceLT, Nat.reduceLeDiff, Nat.reduceEqDiff, reduceIte, Int.reduceEq, reduceCtorEq]
    refine ⟨L.length, rfl, Nat.le_refl _, fun j z hj hz => ?_, h1, h3, h4, h5⟩
    rw [List.getElem?_eq_none hj] at hz
    cases hz
def besP (f : FT) : List Int := (sortZ f.kids).drop f.beside.toNat
theorem bes_ok (f : FT) (ho : f.Ok) (hb0 : 0 ≤ f.beside) (hb1 : f.beside ≤ (f.kids.length : Int)) (s : St) (hw : Wf s) : (lim prog).call f_touchstoneref22_Beside [.agg f.cells] s = some (zx (besP f), s) := by
  refine fn_W p_touchstoneref22_Beside rfl rfl ?_
  have hz0 : wkZ c_touchstoneref22_Beside.cin [.agg f.cells] = [.agg f.cells] := by
    have := wkZ_F f
    simp only [c_touchstoneref22_Beside, wkZ, wk] at this ⊢
    rw [this]
  rw [hz0]
  have H1 := (Hp.begin hw).new (.cells 60 f.cells)
  generalize hq : s.enter.new (.cells 60 f.cells) = q at H1
  generalize hm : s.enter.nb = m at H1
  have hkl := ho.klen
  simp only [c_touchstoneref22_Beside, go_sem, W_cond2, WO_guard3, WE_guard3, WQ_guard3, KB_n, KB_x, Nat.reduceBEq, Nat.reduceAdd, Nat.reduceLT, Nat.reduceLeDiff, Nat.reduceEqDiff, reduceIte, Int.reduceEq, reduceCtorEq, cells6, hq, hm]
  refine W_loop (fun x e q => ∃ (i : Nat) (L : List Int) (a : AV) (fr : Bool), i + x = f.kids.length ∧ L.Perm (f.kids.take i) ∧ L.Pairwise (· ≤ ·) ∧ Hp s q s.en [⟨1, 3, a, L.map iv, fr⟩] [(m, .cells 60 f.cells)] ∧ e.get 1 = .p m 0 ∧ e.get 3 = a ∧ e.get 4 = .i .i64 (i : Nat)) ?_ f.kids.length _ _ ?_
  · rintro x e q' ⟨i, L, a, fr, hix, hpm, hsr, H, g1, g3, g4⟩
    have l3 := H.ld 0 (off := 3) (v := zx f.kids) rfl rfl
    have l5 := H.ld 0 (off := 5) (v := .i .i64 f.beside) rfl rfl
    have hll : L.length = i := by rw [hpm.length_eq, List.length_take]; omega
    have hla := rowH_len (H.rows (i := 0) rfl) q'
    simp only [List.length_map] at hla
    by_cases h : i < f.kids.length
    · have h1 : ((i : Int) < (f.kids.length : Int)) = True := by simp only [eq_iff_iff, iff_true]; omega
      obtain ⟨z, hz⟩ : ∃ z, f.kids[i]? = some z := ⟨_, List.getElem?_eq_getElem h⟩
      have hz2 := iv_get hz
      have hw1 := wrap_succ (show i + 1 < 2 ^ 63 by omega)
      simp only [go_sem, W_cond2, WO_guard3, WE_guard3, WQ_guard3, KB_n, KB_x, Nat.reduceBEq, Nat.reduceAdd, Nat.reduceLT, Nat.reduceLeDiff, Nat.reduceEqDiff, reduceIte, Int.reduceEq, reduceCtorEq, g1, g3, g4, l3, zx, List.length_map, Nat.zero_add, h1, hla]
      refine bes_in (f := f) (i := i) (x := z) H (by omega) hz ?_ ?_ ?_ ?_ ?_
      · simp only [go_sem, W_cond2, WO_guard3, WE_guard3, WQ_guard3, KB_n, KB_x, Nat.reduceBEq, Nat.reduceAdd, Nat.reduceLT, Nat.reduceLeDiff, Nat.reduceEqDiff, reduceIte, Int.reduceEq, reduceCtorEq, g1]
      · simp only [go_sem, W_cond2, WO_guard3, WE_guard3, WQ_guard3, KB_n, KB_x, Nat.reduceBEq, Nat.reduceAdd, Nat.reduceLT, Nat.reduceLeDiff, Nat.reduceEqDiff, reduceIte, Int.reduceEq, reduceCtorEq, g3]
      · simp only [go_sem, W_cond2, WO_guard3, WE_guard3, WQ_guard3, KB_n, KB_x, Nat.reduceBEq, Nat.reduceAdd, Nat.reduceLT, Nat.reduceLeDiff, Nat.reduceEqDiff, reduceIte, Int.reduceEq, reduceCtorEq, g4]
      · simp only [go_sem, W_cond2, WO_guard3, WE_guard3, WQ_guard3, KB_n, KB_x, Nat.reduceBEq, Nat.reduceAdd, Nat.reduceLT, Nat.reduceLeDiff, Nat.reduceEqDiff, reduceIte, Int.reduceEq, reduceCtorEq]
      clear g1 g3 g4 e
      intro e b g1 g3 g4 g5 hbl hgt hle
      obtain ⟨a2, q2, d2, y2, _, ⟨fr2, H2⟩, n2⟩ := H.slc 0 (lo := none) (hi := some (.i .i64 (b : Nat))) (p := 0) (q := b) rfl (by simp only [bounds, natOf_nat, List.length_map]; rw [if_pos ⟨Nat.zero_le _, hbl⟩])
      obtain ⟨a3, q3, d3, H3, n3, _⟩ := H2.appN (es := 1) 3 (a := .sl 1 [] .full) (xs := []) (.inr (.inr (.inl rfl))) y2 (by simp; omega)
      have l3 := H3.ld 0 (off := 3) (v := zx f.kids) rfl rfl
      obtain ⟨a4, q4, d4, H4, n4, _⟩ := H3.app 0 (y := .sl 1 [.i .i64 z] .full) (ys := [.i .i64 z]) rfl (by simp [elems, St.ok]) (by simp; omega)
      obtain ⟨a5, q5, d5, y5, _, ⟨fr5, H5⟩, n5⟩ := H4.slc 1 (lo := some (.i .i64 (b : Nat))) (hi := none) (p := b) (q := L.length) rfl (by simp only [bounds, natOf_nat, List.length_map]; rw [if_pos ⟨hbl, Nat.le_refl _⟩])
      obtain ⟨a6, q6, d6, H6, n6, _⟩ := H5.app 0 rfl y5 (by simp; omega)
      have H7 := H6.sel [0] [0] (by simp) (by simp)
      have hpin := put_in hsr hbl hgt hle
      have hal0 : allLen 1 [] = true := rfl
      have hal1 : allLen 1 [AV.i .i64 z] = true := rfl
      simp only [go_sem, W_cond2, WO_guard3, WE_guard3, WQ_guard3, KB_n, KB_x, Nat.reduceBEq, Nat.reduceAdd, Nat.reduceLT, Nat.reduceLeDiff, Nat.reduceEqDiff, reduceIte, Int.reduceEq, reduceCtorEq, g1, g3, g4, g5, l3, zx, hal0, hal1, d2, d3, d4, d5, d6, natOf_nat, hz2, cells_iv, ldA_1, Nat.zero_add, hw1]
      refine ⟨x - 1, by omega, i + 1, L.take b ++ ([z] ++ L.drop b), a6, true, by omega, ?_, hpin.1, ?_, ?_⟩
      · have htk : f.kids.take (i + 1) = f.kids.take i ++ [z] := by rw [List.take_add_one, hz]; rfl
        rw [htk]
        exact hpin.2.trans (hpm.append_right [z])
      · have hxs : (([] ++ ((L.map iv).drop 0).take (b - 0)) ++ [AV.i .i64 z]) ++ ((L.map iv).drop b).take (L.length - b) = (L.take b ++ ([z] ++ L.drop b)).map iv := by
          have e1 : ((L.map iv).drop b).take (L.length - b) = (L.drop b).map iv := by rw [List.take_of_length_le (by simp), List.map_drop]
          have e2 : (([] : List AV) ++ ((L.map iv).drop 0).take (b - 0)) = (L.take b).map iv := by rw [List.nil_append, List.drop_zero, Nat.sub_zero, List.map_take]
          rw [e1, e2, List.map_append, List.map_append, List.append_assoc]
          rfl
        have H8 : Hp s q6 s.en [⟨1, 3, a6, (([] ++ ((L.map iv).drop 0).take (b - 0)) ++ [AV.i .i64 z]) ++ ((L.map iv).drop b).take (L.length - b), true⟩] [(m, .cells 60 f.cells)] := H7
        rw [hxs] at H8
        exact H8
      · exact ⟨rfl, rfl⟩
    · have h1 : ((i : Int) < (f.kids.length : Int)) = False := by simp only [eq_iff_iff, iff_false]; omega
      have h2 : ((L.length : Int) < f.beside) = False := by simp only [eq_iff_iff, iff_false]; omega
      obtain ⟨B, hB⟩ : ∃ B : Nat, f.beside = (B : Int) := ⟨f.beside.toNat, by omega⟩
      obtain ⟨a2, q2, d2, _, hor, ⟨fr2, H2⟩, n2⟩ := H.slc 0 (lo := some (.i .i64 (B : Nat))) (hi := none) (p := B) (q := L.length) rfl (by simp only [bounds, natOf_nat, List.length_map]; rw [if_pos ⟨by omega, Nat.le_refl _⟩])
      rw [hB] at l5 h2
      have hys : ((L.map iv).drop B).take (L.length - B) = (besP f).map iv := by
        rw [List.take_of_length_le (by simp), ← List.map_drop]
        unfold besP
        rw [List.take_of_length_le (by omega)] at hpm
        rw [sortZ_of hpm hsr, hB, Int.toNat_natCast]
      rw [hys] at hor
      obtain ⟨a3, q3, d3, t3, ov⟩ : ∃ a3 q3, pubA q2 a2 = some (a3, q3) ∧ Told1 1 a3 ((besP f).map iv) ∧ Over s q3 := by
        rcases hor with ht | ⟨rfl, he⟩
        · exact ⟨a2, q2, ht.pubA q2, ht, H2.over⟩
        · obtain ⟨a3, q3, d3, t3, H3, _⟩ := H2.pub 0 rfl
          refine ⟨a3, q3, ?_, by rw [he]; exact t3, H3.over⟩
          rw [pubA_row (H2.rows (i := 0) rfl)]
          exact d3
      simp only [go_sem, W_cond2, WO_guard3, WE_guard3, WQ_guard3, KB_n, KB_x, Nat.reduceBEq, Nat.reduceAdd, Nat.reduceLT, Nat.reduceLeDiff, Nat.reduceEqDiff, reduceIte, Int.reduceEq, reduceCtorEq, g1, g3, g4, l3, zx, List.length_map, Nat.zero_add, h1, l5, hla, h2, d2, d3]
      exact KR_some ov (by simp only [tupOf, t3.refs (refs_goI _)]) (by simp only [tupOf, wkZ, t3.wk (wkM_i _)])
  · simp only [go_sem, W_cond2, WO_guard3, WE_guard3, WQ_guard3, KB_n, KB_x, Nat.reduceBEq, Nat.reduceAdd, Nat.reduceLT, Nat.reduceLeDiff, Nat.reduceEqDiff, reduceIte, Int.reduceEq, reduceCtorEq]
    exact ⟨0, [], .nsl, true, by omega, by simp, by simp, H1.addFull 1 3 true .nil, rfl, rfl⟩
end Go.Proofs.Ytgloinighjdhlaa

/-
  The document's Know, More and Whole.
-/
set_option maxRecDepth 100000
set_option maxHeartbeats 4000000
set_option linter.unusedSimpArgs false
set_option linter.constructorNameAsVariable false
namespace Go.Proofs.Ytgloinighjdhlaa
open Go.Proofs.Ytgloinighjdhlaa.Am
attribute [local irreducible] W WO WE WQ WD Tr.get Tr.set
def tupR (r : List FT × Int) : AV := .tup [fx r.1, .i .i64 r.2]
def knowP (l : List FT) (n : Int) (kind : Nat) : List FT × Int :=
  if wrongE l n = 0 then (match l[n.toNat]? with
    | none => ([], 0)
    | some f => if f.known then ([], 6) else if 3 < kind then ([], 1) else (l.set n.toNat ⟨true, kind, [], [], 0, 0⟩, 0)) else ([], wrongE l n)
def moreP (l : List FT) (n : Int) : List FT × Int :=
  if dirE l n = 0 then (match l[n.toNat]? with
    | none => ([], 0)
    | some f => if f.rest = 1 then ([], 6) else (l.set n.toNat { f with rest := 2, beside := (f.names.length : Int) }, 0)) else ([], dirE l n)
def thereP (l : List FT) (f : FT) : Bool := (besP f).any fun k => match l[k.toNat]? with
  | some g => g.known && decide (g.kind ≠ 0)
  | none => false
def wholeP (l : List FT) (n : Int) : List FT × Int :=
  if dirE l n = 0 then (match l[n.toNat]? with
    | none => ([], 0)
    | some f => if f.rest = 1 then ([], 6) else if f.rest = 2 ∧ thereP l f = false then ([], 67) else (l.set n.toNat { f with rest := 1, beside := 0 }, 0)) else ([], dirE l n)
theorem wkZ_new (kind : Nat) : wkZ [CT.id, .id, (.sl 1 .id), (.sl 1 .id), .id, .id] [.b true, .i .u8 (kind : Nat), .nsl, .nsl, .i .i64 0, .i .i64 0] = (FT.mk true kind [] [] 0 0).cells := by
  simp only [wkZ, wk, FT.cells, tx, zx, List.map_nil]
theorem KR_F {s q : St} (ov : Over s q) (L : List FT) (z : Int) : KR s [.sl 6 (.agg [.id, .id, (.sl 1 .id), (.sl 1 .id), .id, .id]), .id] (tupR (L, z)) (some ([.ws false 6 (L.map FT.av), .i .i64 z], q)) := by
  refine KR_some ov ?_ ?_
  · simp only [tupOf, AV.refs, AV.refs.go, refs_goF]
    rfl
  · simp only [tupOf, wkZ, wk, tupR, fx]
theorem KR_0 {s q : St} (ov : Over s q) (z : Int) : KR s [.sl 6 (.agg [.id, .id, (.sl 1 .id), (.sl 1 .id), .id, .id]), .id] (tupR ([], z)) (some ([.nsl, .i .i64 z], q)) := KR_some ov rfl rfl
theorem dir_zero {l : List FT} {n : Int} (h : dirE l n = 0) : mayP l = true ∧ ∃ (i : Nat) (f : FT), n = (i : Int) ∧ l[i]? = some f ∧ f.isDir = true := by
  unfold dirE at h
  by_cases hw : wrongE l n = 0
  · obtain ⟨h1, i, f, rfl, hf⟩ := wrong_zero hw
    rw [if_pos hw, Int.toNat_natCast, hf] at h
    simp only at h
    refine ⟨h1, i, f, rfl, hf, ?_⟩
    cases hi : f.isDir
    · rw [hi] at h; simp at h
    · rfl
  · rw [if_neg hw] at h
    exact absurd h hw
theorem may_one {l : List FT} (h : mayP l = true) {f : FT} (hf : f ∈ l) : f.one = true := by
  cases l with
  | nil => cases hf
  | cons g t =>
    simp only [mayP, Bool.and_eq_true, List.all_eq_true] at h
    exact h.2.1 f hf
theorem ref22know_ok (l : List FT) (ho : ∀ f ∈ l, f.Ok) (hl : l.length < 2 ^ 34) (hB : (flatK l).length < 2 ^ 62) (n : Int) (kind : Nat) (s : St) (hw : Wf s) : (lim prog).call f_touchstoneref22_Know [fx l, .i .i64 n, .i .u8 (kind : Nat)] s = some (tupR (knowP l n kind), s) := by
  refine fn_W p_touchstoneref22_Know rfl rfl ?_
  have hz0 : wkZ c_touchstoneref22_Know.cin [fx l, .i .i64 n, .i .u8 (kind : Nat)] = [fx l, .i .i64 n, .i .u8 (kind : Nat)] := by
    simp only [c_touchstoneref22_Know, wkZ, fx, wk]
  have hth : ∀ u : St, thawA u (.ws false 6 (l.map FT.av)) = some (.ws false 6 (l.map FT.av), u) := fun _ => rfl
  have hm := wrong_ok l ho hl hB n s.enter hw.enter
  have hno : ∀ z : Int, KR s [.sl 6 (.agg [.id, .id, (.sl 1 .id), (.sl 1 .id), .id, .id]), .id] (tupR ([], z)) (some ([.nsl, .i .i64 z], s.enter)) := fun z => KR_some (Over.enter s) rfl rfl
  rw [hz0]
  unfold fx at hm
  unfold knowP
  by_cases hwr : wrongE l n = 0
  · obtain ⟨_, i, f, rfl, hf⟩ := wrong_zero hwr
    have hil := (List.getElem?_eq_some_iff.1 hf).1
    have hg2 := fx_get hf
    have l0 : ∀ u, ldA u false 1 (.ep f.cells 0 .shut) = some (.b f.known) := fun u => rfl
    have hz : ((0 : Int) ≠ 0) = False := by simp
    rw [hwr] at hm
    rw [if_pos hwr, Int.toNat_natCast, hf]
    show W _ _ _ _ (KF s _ _ (tupR (if f.known then ([], 6) else if 3 < kind then ([], 1) else (l.set i ⟨true, kind, [], [], 0, 0⟩, 0))))
    cases hk : f.known
    · rw [hk] at l0
      rw [if_neg (by simp)]
      by_cases k2 : 3 < kind
      · have e1 : ((3 : Int) < (kind : Int)) = True := by simp only [eq_iff_iff, iff_true]; omega
        rw [if_pos k2]
        simp only [c_touchstoneref22_Know, go_sem, W_cond2, WO_guard3, WE_guard3, WQ_guard3, KB_n, KB_x, Nat.reduceBEq, Nat.reduceAdd, Nat.reduceLT, Nat.reduceLeDiff, Nat.reduceEqDiff, reduceIte, Int.reduceEq, reduceCtorEq, fx, hm, hz, hth, natOf_nat, hg2, cl_agg, l0, e1]
        exact hno _
      · have e1 : ((3 : Int) < (kind : Int)) = False := by simp only [eq_iff_iff, iff_false]; omega
        have hwi := with_ok l hl hil ⟨true, kind, [], [], 0, 0⟩ (wkZ_new kind) s.enter hw.enter
        unfold fx at hwi
        rw [if_neg k2]
        simp only [c_touchstoneref22_Know, go_sem, W_cond2, WO_guard3, WE_guard3, WQ_guard3, KB_n, KB_x, Nat.reduceBEq, Nat.reduceAdd, Nat.reduceLT, Nat.reduceLeDiff, Nat.reduceEqDiff, reduceIte, Int.reduceEq, reduceCtorEq, fx, hm, hz, hth, natOf_nat, hg2, cl_agg, l0, e1, hwi]
        exact KR_F (Over.enter s) _ _
    · rw [hk] at l0
      rw [if_pos rfl]
      simp only [c_touchstoneref22_Know, go_sem, W_cond2, WO_guard3, WE_guard3, WQ_guard3, KB_n, KB_x, Nat.reduceBEq, Nat.reduceAdd, Nat.reduceLT, Nat.reduceLeDiff, Nat.reduceEqDiff, reduceIte, Int.reduceEq, reduceCtorEq, fx, hm, hz, hth, natOf_nat, hg2, cl_agg, l0]
      exact hno _
  · have e1 : (wrongE l n ≠ 0) = True := by simp [hwr]
    rw [if_neg hwr]
    simp only [c_touchstoneref22_Know, go_sem, W_cond2, WO_guard3, WE_guard3, WQ_guard3, KB_n, KB_x, Nat.reduceBEq, Nat.reduceAdd, Nat.reduceLT, Nat.reduceLeDiff, Nat.reduceEqDiff, reduceIte, Int.reduceEq, reduceCtorEq, fx, hm, e1]
    exact hno _
theorem ref22more_ok (l : List FT) (ho : ∀ f ∈ l, f.Ok) (hl : l.length < 2 ^ 34) (hB : (flatK l).length < 2 ^ 62) (n : Int) (s : St) (hw : Wf s) : (lim prog).call f_touchstoneref22_More [fx l, .i .i64 n] s = some (tupR (moreP l n), s) := by
  refine fn_W p_touchstoneref22_More rfl rfl ?_
  have hz0 : wkZ c_touchstoneref22_More.cin [fx l, .i .i64 n] = [fx l, .i .i64 n] := by
    simp only [c_touchstoneref22_More, wkZ, fx, wk]
  have hm := ref22dir_ok l ho hl hB n s.enter hw.enter
  have hno : ∀ z : Int, KR s [.sl 6 (.agg [.id, .id, (.sl 1 .id), (.sl 1 .id), .id, .id]), .id] (tupR ([], z)) (some ([.nsl, .i .i64 z], s.enter)) := fun z => KR_0 (Over.enter s) z
  rw [hz0]
  unfold fx at hm
  unfold moreP
  by_cases hwr : dirE l n = 0
  · obtain ⟨_, i, f, rfl, hf, hd⟩ := dir_zero hwr
    have hil := (List.getElem?_eq_some_iff.1 hf).1
    have hg2 := fx_get hf
    have hz : ((0 : Int) ≠ 0) = False := by simp
    obtain ⟨q1, d1, H1, n1⟩ := (Hp.begin hw).adp (T := 60) (m := 6) (z := [.b false, .i .u8 0, .nsl, .nsl, .i .i64 0, .i .i64 0]) (v := .agg f.cells) rfl ⟨rfl, rfl⟩
    generalize hb : s.enter.nb = b at d1 H1
    have l2 := H1.ld 0 (off := 2) (v := tx f.names) rfl rfl
    have l4 := H1.ld 0 (off := 4) (v := .i .i64 f.rest) rfl rfl
    rw [hwr] at hm
    rw [if_pos hwr, Int.toNat_natCast, hf]
    show W _ _ _ _ (KF s _ _ (tupR (if f.rest = 1 then ([], 6) else (l.set i { f with rest := 2, beside := (f.names.length : Int) }, 0))))
    by_cases r1 : f.rest = 1
    · have e1 : (f.rest = 1) = True := by simp [r1]
      rw [if_pos r1]
      simp only [c_touchstoneref22_More, go_sem, W_cond2, WO_guard3, WE_guard3, WQ_guard3, KB_n, KB_x, Nat.reduceBEq, Nat.reduceAdd, Nat.reduceLT, Nat.reduceLeDiff, Nat.reduceEqDiff, reduceIte, Int.reduceEq, reduceCtorEq, fx, hm, hz, natOf_nat, hg2, cl_agg, ld_cells6, pub_cells6, d1, hb, Nat.zero_add, l4, e1]
      exact KR_0 H1.over _
    · have e1 : (f.rest = 1) = False := by simp [r1]
      obtain ⟨q2, d2, H2, n2, _⟩ := H1.st 0 (off := 4) (v := .i .i64 2) rfl (by show 4 < 6; omega) ⟨rfl, rfl⟩
      have l2' := H2.ld 0 (off := 2) (v := tx f.names) rfl rfl
      obtain ⟨q3, d3, H3, n3, _⟩ := H2.st 0 (off := 5) (v := .i .i64 (f.names.length : Nat)) rfl (by show 5 < 6; omega) ⟨rfl, rfl⟩
      have H4 : Hp s q3 s.en [] [(b, .cells 60 (FT.mk f.known f.kind f.names f.kids 2 (f.names.length : Int)).cells)] := H3
      have lw := H4.ldw (m := 6) 0 rfl rfl
      have hwi := with_ok l hl hil (FT.mk f.known f.kind f.names f.kids 2 (f.names.length : Int)) (wkZ_F _) q3 H3.wf
      unfold fx at hwi
      rw [if_neg r1]
      simp only [c_touchstoneref22_More, go_sem, W_cond2, WO_guard3, WE_guard3, WQ_guard3, KB_n, KB_x, Nat.reduceBEq, Nat.reduceAdd, Nat.reduceLT, Nat.reduceLeDiff, Nat.reduceEqDiff, reduceIte, Int.reduceEq, reduceCtorEq, fx, hm, hz, natOf_nat, hg2, cl_agg, ld_cells6, pub_cells6, d1, hb, Nat.zero_add, l4, e1, d2, l2', List.length_map, d3, lw, hwi]
      exact KR_F H3.over _ _
  · have e1 : (dirE l n ≠ 0) = True := by simp [hwr]
    rw [if_neg hwr]
    simp only [c_touchstoneref22_More, go_sem, W_cond2, WO_guard3, WE_guard3, WQ_guard3, KB_n, KB_x, Nat.reduceBEq, Nat.reduceAdd, Nat.reduceLT, Nat.reduceLeDiff, Nat.reduceEqDiff, reduceIte, Int.reduceEq, reduceCtorEq, fx, hm, e1]
    exact hno _
end Go.Proofs.Ytgloinighjdhlaa

/-
  The document's Whole.
-/
set_option maxRecDepth 100000
set_option maxHeartbeats 4000000
set_option linter.unusedSimpArgs false
set_option linter.constructorNameAsVariable false
namespace Go.Proofs.Ytgloinighjdhlaa
open Go.Proofs.Ytgloinighjdhlaa.Am
attribute [local irreducible] W WO WE WQ WD Tr.get Tr.set
theorem one_rest {f : FT} (h : f.one = true) (hd : f.isDir = true) (hr : f.rest = 2) : 0 ≤ f.beside ∧ f.beside ≤ (f.kids.length : Int) := by
  unfold FT.one at h
  rw [hd] at h
  simp only [if_true, Bool.and_eq_true, Bool.not_eq_true'] at h
  obtain ⟨h1, h2, h3⟩ := h
  unfold FT.restB at h3
  rw [if_pos hr] at h3
  simp only [Bool.and_eq_true, decide_eq_true_eq] at h3
  unfold FT.bad at h1
  simp only [Bool.or_eq_false_iff, decide_eq_false_iff_not, Decidable.not_not] at h1
  have := h1.2.2
  omega
theorem bes_mem {f : FT} {k : Int} (h : k ∈ besP f) : k ∈ f.kids := by
  unfold besP at h
  have h1 := List.mem_of_mem_drop h
  exact (List.mergeSort_perm f.kids _).mem_iff.1 h1
theorem may_kid {l : List FT} (h : mayP l = true) {i : Nat} {f : FT} (hf : l[i]? = some f) {k : Int} (hk : k ∈ f.kids) : ∃ (j : Nat) (g : FT), k = (j : Int) ∧ l[j]? = some g := by
  cases l with
  | nil => simp at hf
  | cons g t =>
    simp only [mayP, Bool.and_eq_true, behind_get] at h
    have := h.2.2.1 i f hf k hk
    exact ⟨k.toNat, (g :: t)[k.toNat]'(by omega), by omega, List.getElem?_eq_getElem (by omega)⟩
def isThere (l : List FT) (k : Int) : Bool := match l[k.toNat]? with
  | some g => g.known && decide (g.kind ≠ 0)
  | none => false
theorem thereP_eq (l : List FT) (f : FT) : thereP l f = (besP f).any (isThere l) := rfl
theorem any_take {P : Int → Bool} {L : List Int} {c : Nat} {k : Int} (h : L[c]? = some k) : (L.take (c + 1)).any P = ((L.take c).any P || P k) := by
  rw [List.take_add_one, h]
  simp
theorem ref22whole_ok (l : List FT) (ho : ∀ f ∈ l, f.Ok) (hl : l.length < 2 ^ 34) (hB : (flatK l).length < 2 ^ 62) (n : Int) (s : St) (hw : Wf s) : (lim prog).call f_touchstoneref22_Whole [fx l, .i .i64 n] s = some (tupR (wholeP l n), s) := by
  refine fn_W p_touchstoneref22_Whole rfl rfl ?_
  have hz0 : wkZ c_touchstoneref22_Whole.cin [fx l, .i .i64 n] = [fx l, .i .i64 n] := by
    simp only [c_touchstoneref22_Whole, wkZ, fx, wk]
  have hth : ∀ u : St, thawA u (.ws false 6 (l.map FT.av)) = some (.ws false 6 (l.map FT.av), u) := fun _ => rfl
  have hm := ref22dir_ok l ho hl hB n s.enter hw.enter
  have hno : ∀ z : Int, KR s [.sl 6 (.agg [.id, .id, (.sl 1 .id), (.sl 1 .id), .id, .id]), .id] (tupR ([], z)) (some ([.nsl, .i .i64 z], s.enter)) := fun z => KR_0 (Over.enter s) z
  rw [hz0]
  unfold fx at hm
  unfold wholeP
  by_cases hwr : dirE l n = 0
  · obtain ⟨hmay, i, f, rfl, hf, hd⟩ := dir_zero hwr
    have hil := (List.getElem?_eq_some_iff.1 hf).1
    have hfm := List.mem_of_getElem? hf
    have hg2 := fx_get hf
    have hz : ((0 : Int) ≠ 0) = False := by simp
    obtain ⟨q1, d1, H1, n1⟩ := (Hp.begin hw).adp (T := 60) (m := 6) (z := [.b false, .i .u8 0, .nsl, .nsl, .i .i64 0, .i .i64 0]) (v := .agg f.cells) rfl ⟨rfl, rfl⟩
    generalize hb : s.enter.nb = b at d1 H1
    have l4 := H1.ld 0 (off := 4) (v := .i .i64 f.rest) rfl rfl
    have lw := H1.ldw (m := 6) 0 rfl rfl
    rw [hwr] at hm
    rw [if_pos hwr, Int.toNat_natCast, hf]
    show W _ _ _ _ (KF s _ _ (tupR (if f.rest = 1 then ([], 6) else if f.rest = 2 ∧ thereP l f = false then ([], 67) else (l.set i { f with rest := 1, beside := 0 }, 0))))
    by_cases r1 : f.rest = 1
    · have e1 : (f.rest = 1) = True := by simp [r1]
      rw [if_pos r1]
      simp only [c_touchstoneref22_Whole, go_sem, W_cond2, WO_guard3, WE_guard3, WQ_guard3, KB_n, KB_x, Nat.reduceBEq, Nat.reduceAdd, Nat.reduceLT, Nat.reduceLeDiff, Nat.reduceEqDiff, reduceIte, Int.reduceEq, reduceCtorEq, fx, hm, hz, natOf_nat, hg2, cl_agg, ld_cells6, pub_cells6, d1, hb, Nat.zero_add, l4, e1]
      exact KR_0 H1.over _
    · have e1 : (f.rest = 1) = False := by simp [r1]
      rw [if_neg r1]
      obtain ⟨q2, d2, H2, n2, _⟩ := H1.st 0 (off := 4) (v := .i .i64 1) rfl (by show 4 < 6; omega) ⟨rfl, rfl⟩
      obtain ⟨q3, d3, H3, n3, _⟩ := H2.st 0 (off := 5) (v := .i .i64 0) rfl (by show 5 < 6; omega) ⟨rfl, rfl⟩
      have H4 : Hp s q3 s.en [] [(b, .cells 60 (FT.mk f.known f.kind f.names f.kids 1 0).cells)] := H3
      have lw4 := H4.ldw (m := 6) 0 rfl rfl
      have hwi := with_ok l hl hil (FT.mk f.known f.kind f.names f.kids 1 0) (wkZ_F _) q3 H3.wf
      unfold fx at hwi
      by_cases r2 : f.rest = 2
      · have e2 : (f.rest = 2) = True := by simp [r2]
        obtain ⟨b0, b1⟩ := one_rest (may_one hmay hfm) hd r2
        have hbes := bes_ok f (ho f hfm) b0 b1 q1 H1.wf
        have hbl : (besP f).length < 2 ^ 40 := by
          have h1 := (ho f hfm).klen
          unfold besP
          rw [List.length_drop, sortZ_len]
          omega
        simp only [c_touchstoneref22_Whole, go_sem, W_cond2, WO_guard3, WE_guard3, WQ_guard3, KB_n, KB_x, Nat.reduceBEq, Nat.reduceAdd, Nat.reduceLT, Nat.reduceLeDiff, Nat.reduceEqDiff, reduceIte, Int.reduceEq, reduceCtorEq, fx, hm, hz, natOf_nat, hg2, cl_agg, ld_cells6, pub_cells6, d1, hb, Nat.zero_add, l4, e1, e2, lw, hbes]
        refine W_loop (fun x e q => ∃ c : Nat, c + x = (besP f).length ∧ q = q1 ∧ e.get 0 = fx l ∧ e.get 1 = .i .i64 (i : Nat) ∧ e.get 7 = .p b 0 ∧ e.get 8 = .b (((besP f).take c).any (isThere l)) ∧ e.get 9 = zx (besP f) ∧ e.get 10 = .i .i64 (c : Nat)) ?_ (besP f).length _ _ ?_
        · rintro x e q ⟨c, hcx, rfl, g0, g1, g7, g8, g9, g10⟩
          by_cases hc : c < (besP f).length
          · have c1 : ((c : Int) < ((besP f).length : Int)) = True := by simp only [eq_iff_iff, iff_true]; omega
            obtain ⟨k, hk⟩ : ∃ k, (besP f)[c]? = some k := ⟨_, List.getElem?_eq_getElem hc⟩
            have hk2 := iv_get hk
            have hw1 := wrap_succ (show c + 1 < 2 ^ 63 by omega)
            obtain ⟨j, g, rfl, hg⟩ := may_kid hmay hf (bes_mem (List.mem_of_getElem? hk))
            have hg3 := fx_get hg
            have l0 : ∀ u, ldA u false 1 (.ep g.cells 0 .shut) = some (.b g.known) := fun u => rfl
            have l1 : ∀ u, ldA u false 1 (.ep g.cells 1 .shut) = some (.i .u8 (g.kind : Nat)) := fun u => rfl
            have hat := any_take (P := isThere l) hk
            have hit : isThere l (j : Int) = (g.known && decide (g.kind ≠ 0)) := by
              unfold isThere
              rw [Int.toNat_natCast, hg]
            rw [hit] at hat
            have hkk : ((g.kind : Int) ≠ 0) = (g.kind ≠ 0) := by simp
            cases ht : ((besP f).take c).any (isThere l)
            · rw [ht] at g8 hat
              rw [Bool.false_or] at hat
              cases hkn : g.known
              · rw [hkn] at l0 hat
                simp only [go_sem, W_cond2, WO_guard3, WE_guard3, WQ_guard3, KB_n, KB_x, Nat.reduceBEq, Nat.reduceAdd, Nat.reduceLT, Nat.reduceLeDiff, Nat.reduceEqDiff, reduceIte, Int.reduceEq, reduceCtorEq, g0, g1, g7, g8, g9, g10, fx, zx, List.length_map, c1, hth, natOf_nat, hk2, cells_iv, ldA_1, hg3, cl_agg, l0, l1, hw1, hkk]
                exact ⟨x - 1, by omega, c + 1, by omega, by rw [hat, Bool.false_and], rfl⟩
              · rw [hkn] at l0 hat
                simp only [go_sem, W_cond2, WO_guard3, WE_guard3, WQ_guard3, KB_n, KB_x, Nat.reduceBEq, Nat.reduceAdd, Nat.reduceLT, Nat.reduceLeDiff, Nat.reduceEqDiff, reduceIte, Int.reduceEq, reduceCtorEq, g0, g1, g7, g8, g9, g10, fx, zx, List.length_map, c1, hth, natOf_nat, hk2, cells_iv, ldA_1, hg3, cl_agg, l0, l1, hw1, hkk]
                exact ⟨x - 1, by omega, c + 1, by omega, by rw [hat, Bool.true_and], rfl⟩
            · rw [ht] at g8 hat
              simp only [go_sem, W_cond2, WO_guard3, WE_guard3, WQ_guard3, KB_n, KB_x, Nat.reduceBEq, Nat.reduceAdd, Nat.reduceLT, Nat.reduceLeDiff, Nat.reduceEqDiff, reduceIte, Int.reduceEq, reduceCtorEq, g0, g1, g7, g8, g9, g10, fx, zx, List.length_map, c1, hth, natOf_nat, hk2, cells_iv, ldA_1, hg3, cl_agg, l0, l1, hw1, hkk]
              exact ⟨x - 1, by omega, c + 1, by omega, by rw [hat, Bool.true_or], rfl⟩
          · have c1 : ((c : Int) < ((besP f).length : Int)) = False := by simp only [eq_iff_iff, iff_false]; omega
            rw [List.take_of_length_le (by omega), ← thereP_eq] at g8
            cases ht : thereP l f
            · rw [ht] at g8
              rw [if_pos rfl]
              simp only [go_sem, W_cond2, WO_guard3, WE_guard3, WQ_guard3, KB_n, KB_x, Nat.reduceBEq, Nat.reduceAdd, Nat.reduceLT, Nat.reduceLeDiff, Nat.reduceEqDiff, reduceIte, Int.reduceEq, reduceCtorEq, g0, g1, g7, g8, g9, g10, fx, zx, List.length_map, c1]
              exact KR_0 H1.over _
            · rw [ht] at g8
              rw [if_neg (by simp)]
              simp only [go_sem, W_cond2, WO_guard3, WE_guard3, WQ_guard3, KB_n, KB_x, Nat.reduceBEq, Nat.reduceAdd, Nat.reduceLT, Nat.reduceLeDiff, Nat.reduceEqDiff, reduceIte, Int.reduceEq, reduceCtorEq, g0, g1, g7, g8, g9, g10, fx, zx, List.length_map, c1, Nat.zero_add, d2, d3, lw4, pub_cells6, hwi]
              exact KR_F H3.over _ _
        · simp only [go_sem, W_cond2, WO_guard3, WE_guard3, WQ_guard3, KB_n, KB_x, Nat.reduceBEq, Nat.reduceAdd, Nat.reduceLT, Nat.reduceLeDiff, Nat.reduceEqDiff, reduceIte, Int.reduceEq, reduceCtorEq]
          exact ⟨0, by omega, rfl, rfl, rfl⟩
      · have e2 : (f.rest = 2) = False := by simp [r2]
        rw [if_neg (fun h => r2 h.1)]
        simp only [c_touchstoneref22_Whole, go_sem, W_cond2, WO_guard3, WE_guard3, WQ_guard3, KB_n, KB_x, Nat.reduceBEq, Nat.reduceAdd, Nat.reduceLT, Nat.reduceLeDiff, Nat.reduceEqDiff, reduceIte, Int.reduceEq, reduceCtorEq, fx, hm, hz, natOf_nat, hg2, cl_agg, ld_cells6, pub_cells6, d1, hb, Nat.zero_add, l4, e1, e2, d2, d3, lw4, hwi]
        exact KR_F H3.over _ _
  · have e1 : (dirE l n ≠ 0) = True := by simp [hwr]
    rw [if_neg hwr]
    simp only [c_touchstoneref22_Whole, go_sem, W_cond2, WO_guard3, WE_guard3, WQ_guard3, KB_n, KB_x, Nat.reduceBEq, Nat.reduceAdd, Nat.reduceLT, Nat.reduceLeDiff, Nat.reduceEqDiff, reduceIte, Int.reduceEq, reduceCtorEq, fx, hm, e1]
    exact hno _
end Go.Proofs.Ytgloinighjdhlaa
