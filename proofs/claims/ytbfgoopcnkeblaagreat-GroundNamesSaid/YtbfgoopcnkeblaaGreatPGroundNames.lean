/-
  Proved: touchstonelaw25.GroundNames returns true, and changes nothing. Conditions: none.
-/
import Derived.Test.YtbfgoopcnkeblaaGreatRows
import Derived.WalkKit
import Derived.ProofKit
import Derived.Test.YtbfgoopcnkeblaaGreatAmKeep
import Derived.Test.YtbfgoopcnkeblaaGreatLink
import Derived.Test.YtbfgoopcnkeblaaGreatEGroundNames
set_option linter.all false
set_option linter.unusedVariables false
set_option linter.unusedSimpArgs false
set_option linter.unusedSectionVars false
set_option maxRecDepth 100000
namespace Go.Proofs.YtbfgoopcnkeblaaGreat
open Go.Proofs.YtbfgoopcnkeblaaGreat.Am Go.Proofs Go.ChangeShapes Go.WideShapes Go.ChangeAt Go.RowKit
theorem own : ownKnob Tryz.prog.godebug = none := by kernel_rfl
theorem PZ : laidOutB Tryz.prog = true := by kernel_rfl
theorem Kh : JF Tryz.prog = true := by kernel_rfl
theorem mixed : Tryz.prog.follows .mixedOrders = true := by kernel_rfl
theorem ctx : Ctx Tryz.prog gt prog := Pf Kh mixed fns_ok
theorem under4 : Tryz.prog.underlying 4 = some .bool := by kernel_rfl
theorem Jg (H : Type) (enc : TypeId × Value → H) (W : World) (base : Nat) (args : Array Value) (ds gs : List (DataW H)) (before : List MemPlace)
    (hval : ∀ (j : Nat) t v, Tryz.f3.params[j]? = some t → args[j]? = some v → Value.okWide Tryz.prog W .any base t v)
    (hW : DataW.Whole enc Tryz.prog Tryz.f3.params.toList YtbfgoopcnkeblaaGreat.Rows.groundNamesSpec.vars false W args.toList ds gs before) :
    Calls Tryz.prog 3 args W fun e W' => ∃ v, e = .returned v ∧ YtbfgoopcnkeblaaGreat.Rows.groundNamesSpec.post enc Tryz.prog Tryz.f3 false true false false W args v W' := by
 have hW' := hW
 obtain ⟨p, q, hA0, hV, rfl, hfz, hnd⟩ := hW
 have hA : DataW.TrodAll enc Tryz.prog W 0 (fun _ => true) true Tryz.f3.params.toList args.toList ds p := hA0
 rw [show Tryz.f3.params.toList = [] from by kernel_rfl] at hA
 have e0 : args = #[] ∧ ds = [] := by
  cases h1 : args.toList with
  | nil => rw [h1] at hA; cases ds with
    | nil => exact ⟨by cases args; simp_all, rfl⟩
    | cons d ds => exact hA.elim
  | cons v vs => rw [h1] at hA; exact hA.elim
 obtain ⟨rfl, rfl⟩ := e0
 obtain ⟨rfl, rfl⟩ := trodVars_none hV
 obtain ⟨n, s', hn⟩ := IY
 refine (MN (NN Kh) ctx (vs := #[]) (fun i l h => by cases h) (by simp [VL]) hn).mono fun e W' ⟨he, hk⟩ => ?_
 exact ⟨_, he, NS PZ (by kernel_rfl) rfl (by kernel_rfl) under4 hW' rfl hk⟩
theorem lifted (os : Os) (started : os.Started) (H : Type) (enc : TypeId × Value → H) :
    ReturnsInHanded {} Tryz.checked os 3 .any (YtbfgoopcnkeblaaGreat.Rows.groundNamesSpec.pre6 enc Tryz.prog Tryz.f3 YtbfgoopcnkeblaaGreat.Rows.groundNamesRow.domain false) (YtbfgoopcnkeblaaGreat.Rows.groundNamesSpec.post enc Tryz.prog Tryz.f3 false true false false) := by
 refine returnsInHanded_of_change (C := Tryz.checked) own started (by kernel_rfl) Tryz.func3
  (ChangeSpec.witness6 (enc := enc) (C := Tryz.checked) false ⟨#[], #[], []⟩ 8 (by kernel_rfl) (by kernel_rfl) (by kernel_rfl) (by kernel_rfl)) ?_
 intro W base args ds gs before hval hW _ _
 exact Jg H enc W base args ds gs before hval hW
theorem proved : YtbfgoopcnkeblaaGreat.Rows.GroundNamesSaid :=
 OpenClaim.holds_of_wide 3 Tryz.f3 rfl rfl rfl rfl rfl rfl rfl ⟨rfl, rfl, rfl, rfl, rfl⟩ rfl rfl rfl rfl rfl (by kernel_rfl) Tryz.func3 (by kernel_rfl)
  (of_decide_eq_true (by kernel_rfl)) (by unfold Func.isWrapper; first | (rw [if_pos (by decide +kernel)]; kernel_rfl) | (rw [if_neg (by decide +kernel)]; exact ⟨rfl, rfl⟩))
  (fun os started H enc _ => lifted os started H enc)
end Go.Proofs.YtbfgoopcnkeblaaGreat
