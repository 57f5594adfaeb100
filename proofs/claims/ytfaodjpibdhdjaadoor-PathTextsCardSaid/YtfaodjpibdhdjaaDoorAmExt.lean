/-
  Functions without a body.
-/
import Derived.Test.YtfaodjpibdhdjaaDoorAmSound
import Derived.KernelRfl
import Derived.Lib.Bytealg
set_option linter.all false
set_option linter.unusedVariables false
set_option linter.unusedSimpArgs false
set_option linter.unusedSectionVars false
set_option linter.constructorNameAsVariable false
namespace Go.Proofs.YtfaodjpibdhdjaaDoor.Am
variable {P : Program}

theorem idxB_ge (c : Nat) : ∀ (l : List Nat) (n : Nat), idxB c n l = -1 ∨ (n : Int) ≤ idxB c n l
  | [], n => .inl rfl
  | a :: l, n => by
    simp only [idxB]
    cases Nat.beq a c with
    | true => exact .inr (Int.le_refl _)
    | false =>
      rcases idxB_ge c l (n + 1) with h | h
      · exact .inl h
      · right
        simp only [cond_false]
        omega

theorem indexByte_idxB (c : Nat) (hc : c < 256) : ∀ (l : List Nat) (n : Nat), (∀ x ∈ l, x < 256) → idxB c n l = if Lib.indexByte (l.map UInt8.ofNat) (UInt8.ofNat c) = -1 then -1 else (n : Int) + Lib.indexByte (l.map UInt8.ofNat) (UInt8.ofNat c)
  | [], n, _ => by simp [idxB, Lib.indexByte]
  | a :: l, n, h => by
    have ha := h a (by simp)
    have ih := indexByte_idxB c hc l (n + 1) fun x hx => h x (by simp [hx])
    have hg := Lib.indexByte_ge (l.map UInt8.ofNat) (UInt8.ofNat c)
    simp only [idxB, List.map_cons, Lib.indexByte]
    have he : (UInt8.ofNat a == UInt8.ofNat c) = Nat.beq a c := ofNat_inj ha hc
    rw [he, ih]
    cases Nat.beq a c with
    | true => simp
    | false =>
      simp only [cond_false, Bool.false_eq_true, if_false]
      by_cases h1 : Lib.indexByte (l.map UInt8.ofNat) (UInt8.ofNat c) = -1
      · simp [h1]
      · have h2 : (Lib.indexByte (l.map UInt8.ofNat) (UInt8.ofNat c) == -1) = false := by simpa using h1
        rw [if_neg h1, h2]
        simp only [Bool.false_eq_true, if_false]
        rw [if_neg (by omega)]
        omega

theorem ext0_ok : ExtOk 0 Extern.BytealgIndexByte.indexByte P := by
  intro l c w hl hc
  rw [Lib.run_indexByteString]
  congr 2
  have h1 : (Int.ofNat c).toNat.toUInt8 = UInt8.ofNat c := rfl
  rw [h1, bytes_get, indexByte_idxB c hc l 0 hl]
  split
  · rename_i h; exact h
  · simp
theorem ext1_ok : ExtOk 1 Extern.AbiNoEscape.same P := fun _ _ => rfl

theorem ext_row0 : Extern.allGenericRows.lookup "internal/bytealg.IndexByteString" = none ∧ Extern.allTypedRows.lookup "internal/bytealg.IndexByteString" = none ∧ Extern.allRows.lookup "internal/bytealg.IndexByteString" = some Extern.BytealgIndexByte.indexByte ∧ Extern.allNextRows.lookup "internal/bytealg.IndexByteString" = none := by
  refine ⟨?_, ?_, ?_, ?_⟩ <;> kernel_rfl
theorem ext_row1 : Extern.allGenericRows.lookup "internal/abi.NoEscape" = none ∧ Extern.allTypedRows.lookup "internal/abi.NoEscape" = none ∧ Extern.allRows.lookup "internal/abi.NoEscape" = some Extern.AbiNoEscape.same ∧ Extern.allNextRows.lookup "internal/abi.NoEscape" = none := by
  refine ⟨?_, ?_, ?_, ?_⟩ <;> kernel_rfl

theorem ext_mnz : Extern.allGenericRows.lookup mnzName = none ∧ Extern.allTypedRows.lookup mnzName = some Extern.BytealgMakeNoZero.makeNoZero ∧ Extern.allNextRows.lookup mnzName = none := by
  refine ⟨?_, ?_, ?_⟩ <;> kernel_rfl

theorem ext_ovl : (Extern.allGenericRows.lookup "slices.overlaps" = none ∧ Extern.allTypedRows.lookup "slices.overlaps" = some Extern.SlicesOverlaps.overlaps ∧ Extern.allNextRows.lookup "slices.overlaps" = none) ∧
    ∀ n ∈ ["slices.overlaps[string]", "slices.overlaps[touchstone/api.Node]", "slices.overlaps[int]", "slices.overlaps[touchstone/api.Term]"], Extern.allGenericRows.lookup n = none ∧ Extern.allTypedRows.lookup n = none ∧ Extern.allRows.lookup n = none ∧ Extern.allNextRows.lookup n = none := by
  refine ⟨⟨?_, ?_, ?_⟩, fun n hn => ?_⟩
  · kernel_rfl
  · kernel_rfl
  · kernel_rfl
  · simp only [List.mem_cons, List.not_mem_nil, or_false] at hn
    rcases hn with rfl | rfl | rfl | rfl <;> (refine ⟨?_, ?_, ?_, ?_⟩ <;> kernel_rfl)
theorem isOvl_is {F : Func} (h : isOvl F = true) : F.origin = "slices.overlaps" ∧ F.name ∈ ["slices.overlaps[string]", "slices.overlaps[touchstone/api.Node]", "slices.overlaps[int]", "slices.overlaps[touchstone/api.Term]"] := by
  unfold isOvl at h
  simp only [Bool.and_eq_true, Bool.or_eq_true, beq_iff_eq] at h
  refine ⟨h.1, ?_⟩
  rcases h.2 with h | h | h | h <;> simp [h]

/-- One closed fact of a program: its functions' names. -/
def namesChk (P : Program) : Bool := P.funcs.all fun F => !(F.name == "runtime.NumGoroutine") && (F.body.isSome || (Extern.allNextRows.lookup F.origin).isNone)

theorem names_of {P : Program} (h : namesChk P = true) : NamesOk P := by
  intro f F hF
  have := Array.all_eq_true_iff_forall_mem.1 h F (Array.mem_of_getElem? hF)
  rw [Bool.and_eq_true] at this
  simpa using this.1

theorem ctx_of {P : Program} {gt : Nat → Option (List AV)} {prog : Nat → Option Fun} (h : namesChk P = true) (hm : P.follows .mixedOrders = true)
    (hf : ∀ (f : Nat) (fn : Fun), prog f = some fn → FunOk P gt f fn) : Ctx P gt prog := by
  refine ⟨fun f fn p h1 h2 => ?_, fun f fn h1 h2 => ?_, fun f F r hF hb hr => ?_, hm, fun f F hF hb hn => ?_, fun f F hF hb hn => ?_⟩
  case refine_1 =>
    rcases hf f fn h1 with ⟨h, _⟩ | ⟨q, h, hq⟩
    · rw [h] at h2; cases h2
    · rw [h2] at h; cases h; exact hq
  case refine_2 =>
    rcases hf f fn h1 with ⟨_, h⟩ | ⟨q, h, hq⟩
    · exact h
    · rw [h2] at h; cases h
  case refine_4 =>
    obtain ⟨ho, hn⟩ := isOvl_is hn
    obtain ⟨⟨k1, k2, k3⟩, k4⟩ := ext_ovl
    obtain ⟨m1, m2, m3, m4⟩ := k4 _ hn
    exact ⟨by simp [Extern.findNext, ho, k3, m4], by simp [Extern.find, ho, k1, k2, m1, m2, m3]⟩
  case refine_5 =>
    have hc := Array.all_eq_true_iff_forall_mem.1 h F (Array.mem_of_getElem? hF)
    rw [Bool.and_eq_true, hb] at hc
    simp only [Option.isSome_none, Bool.false_or, Option.isNone_iff_eq_none] at hc
    obtain ⟨k1, k2, k3⟩ := ext_mnz
    exact ⟨by simp [Extern.findNext, hn, k3, hc.2], by simp [Extern.find, hn, k1, k2]⟩
  have hc := Array.all_eq_true_iff_forall_mem.1 h F (Array.mem_of_getElem? hF)
  rw [Bool.and_eq_true, hb] at hc
  simp only [Option.isSome_none, Bool.false_or, Bool.not_eq_true', Option.isNone_iff_eq_none] at hc
  obtain ⟨hc1, hc2⟩ := hc
  refine ⟨hc1, ?_⟩
  unfold externRow at hr
  split at hr
  · rename_i hn
    cases hr
    obtain ⟨k1, k2, k3, k4⟩ := ext_row0
    refine ⟨by simp [Extern.findNext, hn, k4, hc2], _, ?_, ext0_ok⟩
    simp [Extern.find, hn, k1, k2, k3]
  · split at hr
    · rename_i hn
      cases hr
      obtain ⟨k1, k2, k3, k4⟩ := ext_row1
      refine ⟨by simp [Extern.findNext, hn, k4, hc2], _, ?_, ext1_ok⟩
      simp [Extern.find, hn, k1, k2, k3]
    · cases hr
end Go.Proofs.YtfaodjpibdhdjaaDoor.Am
