/-
  Proved: touchstonelaw22.StoreNames returns true, and changes nothing. Conditions: none.
-/
import Derived.Test.YtpghcnfeeakcpaaRows
import Derived.WalkKit
import Derived.ProofKit
import Derived.Test.YtpghcnfeeakcpaaAmLaw
import Derived.Test.YtpghcnfeeakcpaaAmExt
import Derived.Test.YtpghcnfeeakcpaaLink
import Derived.Test.YtpghcnfeeakcpaaEStoreNames
set_option linter.all false
set_option linter.unusedVariables false
set_option linter.unusedSimpArgs false
set_option linter.unusedSectionVars false
set_option maxRecDepth 100000
namespace Go.Proofs.Ytpghcnfeeakcpaa
open Go.Proofs.Ytpghcnfeeakcpaa.Am Go.Proofs Go.ChangeShapes Go.WideShapes Go.ChangeAt Go.RowKit

theorem own : ownKnob Try.prog.godebug = none := by kernel_rfl
theorem laidOut : laidOutB Try.prog = true := by kernel_rfl
theorem names_chk : namesChk Try.prog = true := by kernel_rfl
theorem mixed : Try.prog.follows .mixedOrders = true := by kernel_rfl
theorem ctx : Ctx Try.prog gt prog := ctx_of names_chk mixed fns_ok
theorem under4 : Try.prog.underlying 4 = some .bool := by kernel_rfl

theorem contract (H : Type) (enc : TypeId × Value → H) (W : World) (base : Nat) (args : Array Value) (ds gs : List (DataW H)) (before : List MemPlace)
    (hval : ∀ (j : Nat) t v, Try.f4.params[j]? = some t → args[j]? = some v → Value.okWide Try.prog W .any base t v)
    (hW : DataW.Whole enc Try.prog Try.f4.params.toList Ytpghcnfeeakcpaa.Rows.storeNamesSpec.vars false W args.toList ds gs before) :
    Calls Try.prog 4 args W fun e W' => ∃ v, e = .returned v ∧ Ytpghcnfeeakcpaa.Rows.storeNamesSpec.post enc Try.prog Try.f4 false true false false W args v W' := by
  have hW' := hW
  obtain ⟨p, q, hA0, hV, rfl, hfz, hnd⟩ := hW
  have hA : DataW.TrodAll enc Try.prog W 0 (fun _ => true) true Try.f4.params.toList args.toList ds p := hA0
  rw [show Try.f4.params.toList = [] from by kernel_rfl] at hA
  have e0 : args = #[] ∧ ds = [] := by
    cases h1 : args.toList with
    | nil => rw [h1] at hA; cases ds with
      | nil => exact ⟨by cases args; simp_all, rfl⟩
      | cons d ds => exact hA.elim
    | cons v vs => rw [h1] at hA; exact hA.elim
  obtain ⟨rfl, rfl⟩ := e0
  obtain ⟨rfl, rfl⟩ := trodVars_none hV
  obtain ⟨n, s', hn⟩ := ev_StoreNames
  refine (law_calls (names_of names_chk) ctx (vs := #[]) (fun i l h => by cases h) (by simp [VL]) hn).mono fun e W' ⟨he, hk⟩ => ?_
  exact ⟨_, he, law_post laidOut (by kernel_rfl) rfl (by kernel_rfl) under4 hW' rfl hk⟩

theorem lifted (os : Os) (started : os.Started) (H : Type) (enc : TypeId × Value → H) :
    ReturnsInHanded {} Try.checked os 4 .any (Ytpghcnfeeakcpaa.Rows.storeNamesSpec.pre6 enc Try.prog Try.f4 Ytpghcnfeeakcpaa.Rows.storeNamesRow.domain false) (Ytpghcnfeeakcpaa.Rows.storeNamesSpec.post enc Try.prog Try.f4 false true false false) := by
  refine returnsInHanded_of_change (C := Try.checked) own started (by kernel_rfl) Try.func4
    (ChangeSpec.witness6 (enc := enc) (C := Try.checked) false ⟨#[], #[], []⟩ 8 (by kernel_rfl) (by kernel_rfl) (by kernel_rfl) (by kernel_rfl)) ?_
  intro W base args ds gs before hval hW _ _
  exact contract H enc W base args ds gs before hval hW

theorem proved : Ytpghcnfeeakcpaa.Rows.StoreNamesSaid :=
  OpenClaim.holds_of_wide 4 Try.f4 rfl rfl rfl rfl rfl rfl rfl ⟨rfl, rfl, rfl, rfl, rfl⟩ rfl rfl rfl rfl rfl (by kernel_rfl) Try.func4 (by kernel_rfl)
    (of_decide_eq_true (by kernel_rfl)) (by unfold Func.isWrapper; first | (rw [if_pos (by decide +kernel)]; kernel_rfl) | (rw [if_neg (by decide +kernel)]; exact ⟨rfl, rfl⟩))
    (fun os started H enc _ => lifted os started H enc)
end Go.Proofs.Ytpghcnfeeakcpaa
