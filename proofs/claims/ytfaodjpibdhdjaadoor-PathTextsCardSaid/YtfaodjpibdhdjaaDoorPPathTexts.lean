/-
  Proved: touchstonelaw06.PathTexts returns true, and changes nothing. Conditions: none but the tied tables.
-/
import Derived.Test.YtfaodjpibdhdjaaDoorCards
import Derived.Test.YtfaodjpibdhdjaaDoorTie
import Derived.WalkKit
import Derived.ProofKit
import Derived.OpenShut
import Derived.Deep.DeepHandedRow
import Derived.Lib.LaidTab
import Derived.Test.YtfaodjpibdhdjaaDoorAmLaw
import Derived.Test.YtfaodjpibdhdjaaDoorAmExt
import Derived.Test.YtfaodjpibdhdjaaDoorLink
import Derived.Test.YtfaodjpibdhdjaaDoorLAwake
import Derived.Test.YtfaodjpibdhdjaaDoorAmRead
set_option linter.all false
set_option linter.unusedVariables false
set_option linter.unusedSimpArgs false
set_option linter.unusedSectionVars false
set_option maxRecDepth 100000
namespace Go.Proofs.YtfaodjpibdhdjaaDoor
open Go.Proofs.YtfaodjpibdhdjaaDoor.Am Go.Proofs Go.Proofs.YtfaodjpibdhdjaaDoor Go.ChangeShapes Go.WideShapes Go.ChangeAt Go.RowKit

theorem own : ownKnob Tryd.prog.godebug = none := by kernel_rfl
theorem laidOut : laidOutB Tryd.prog = true := by kernel_rfl
theorem names_chk : namesChk Tryd.prog = true := by kernel_rfl
theorem mixed : Tryd.prog.follows .mixedOrders = true := by kernel_rfl
theorem ctx : Ctx Tryd.prog gt prog := ctx_of names_chk mixed fns_ok
theorem under4 : Tryd.prog.underlying 4 = some .bool := by kernel_rfl

theorem under9 : Tryd.prog.underlying 9 = some .string := by kernel_rfl

theorem contract (H : Type) (enc : TypeId × Value → H) (W : World) (base : Nat) (args : Array Value) (ds gs : List (DataW H)) (before : List MemPlace)
    (hval : ∀ (j : Nat) t v, Tryd.f4.params[j]? = some t → args[j]? = some v → Value.okWide Tryd.prog W .any base t v)
    (hW : DataW.Whole enc Tryd.prog Tryd.f4.params.toList Rows.pathTextsSpec.vars false W args.toList ds gs before) :
    Calls Tryd.prog 4 args W fun e W' => ∃ v, e = .returned v ∧ Rows.pathTextsSpec.post enc Tryd.prog Tryd.f4 false true false false W args v W' := by
  have hW' := hW
  obtain ⟨p, q, hA0, hV, rfl, hfz, hnd⟩ := hW
  have hA : DataW.TrodAll enc Tryd.prog W 0 (fun _ => true) true Tryd.f4.params.toList args.toList ds p := hA0
  rw [show Tryd.f4.params.toList = [9] from by kernel_rfl] at hA
  rw [show Tryd.f4.params = #[9] from by kernel_rfl] at hval
  obtain ⟨v0, vs0, d0, ds0, p0, q0, hargs, rfl, rfl, h0, hA⟩ := trodAll_cons hA
  obtain ⟨rfl, rfl, rfl⟩ := trodAll_nil hA
  obtain rfl : args = #[v0] := by cases args; simp_all
  obtain ⟨rfl, rfl⟩ := trodVars_none hV
  obtain ⟨L0, r0, t0⟩ := read_string1 under9 (hval 0 9 v0 rfl rfl) h0
  obtain ⟨n, hn⟩ := lim_call_iff.1 (pathTexts_ok L0 t0 s0 ⟨rfl, rfl⟩)
  refine (law_calls (names_of names_chk) ctx (vs := #[v0]) (fun i l h => by cases h) (by simp only [VL]; exact ⟨_, _, rfl, r0, rfl⟩) hn).mono fun e W' ⟨he, hk⟩ => ?_
  exact ⟨_, he, law_post laidOut (by kernel_rfl) rfl (by kernel_rfl) under4 hW' rfl hk⟩

noncomputable def laidWorld (os : Os) : World :=
  { World.holding Tryd.prog os ⟨#[], #[.string ⟨#[]⟩], []⟩ with heap := (((World.holding Tryd.prog os ⟨#[], #[.string ⟨#[]⟩], []⟩).heap.modify 2 fun
      | .cells _ t frozen => .cells (([128, 191, 160, 191, 128, 159, 144, 191, 128, 143, 0, 0, 0, 0, 0, 0, 0, 0, 0, 0, 0, 0, 0, 0, 0, 0, 0, 0, 0, 0, 0, 0] : List Int).map fun n => Value.int .u8 n).toArray t frozen
      | o => o).modify 1 fun
      | .cells _ t frozen => .cells (Go.Pinned.utf8FirstZ.map fun n => Value.int .u8 (Int.ofNat n)).toArray t frozen
      | o => o) }
theorem laid_met (os : Os) : laidMet Tryd.prog Rows.pathTextsRow.laid ((laidWorld os).forCall (fun _ _ => 0) ⟨#[], #[.string ⟨#[]⟩], []⟩).memory :=
  laidMet_of_run' 8 (by kernel_rfl) (by kernel_rfl)
theorem reads (os : Os) {H : Type} (enc : TypeId × Value → H) : ∃ places, DataW.whole enc Tryd.prog ((laidWorld os).forCall (fun _ _ => 0) ⟨#[], #[.string ⟨#[]⟩], []⟩).memory Tryd.f4.params.toList Rows.pathTextsSpec.vars false (#[.string ⟨#[]⟩] : Array Value).toList 8 = some ([.lit (.string [])], [], places) :=
  ⟨[], by kernel_rfl⟩

theorem lifted (os : Os) (started : os.Started) (H : Type) (enc : TypeId × Value → H) (F : Stop.Interp) :
    ReturnsInHanded {} Tryd.checked os 4 .any ((OpenSpec.ofChange Rows.pathTextsSpec).preRow enc Tryd.prog Tryd.f4 Rows.pathTextsRow.domain false Rows.pathTextsRow.laid) (((OpenSpec.ofChange Rows.pathTextsSpec).at F).post enc Tryd.prog Tryd.f4 false true false false) := by
  obtain ⟨places, hx⟩ := reads os enc
  refine returnsInHanded_of_row (C := Tryd.checked) (s := OpenSpec.ofChange Rows.pathTextsSpec) own started (by kernel_rfl) Tryd.func4
    (witness_row_at (enc := enc) (C := Tryd.checked) false (laidWorld os) #[.string ⟨#[]⟩] rfl (by kernel_rfl) (by kernel_rfl) (by kernel_rfl)
      (OpenSpec.preRow_of_cond 8 hx (by kernel_rfl) (fun k hk => by cases hk) (by kernel_rfl) (laid_met os))) ?_
  intro W base args ds gs before hval hW _ _ _ hL _ _
  exact contract H enc W base args ds gs before hval hW

theorem j1 : (Rows.pathTextsRow.inPlace == Tryd.pinned.checked.prog.inPlace 4) = true := by kernel_rfl
theorem j2 : (Rows.pathTextsRow.unfollowed == Tryd.pinned.checked.prog.unfollowed 4) = true := by kernel_rfl
theorem j3 : (Rows.pathTextsRow.recurses == Tryd.pinned.checked.prog.recurses 4) = true := by kernel_rfl
theorem j4 : (Rows.pathTextsRow.named == Tryd.pinned.checked.prog.varsNamed 4) = true := by kernel_rfl
theorem closed : joinedFacts Tryd.pinned.checked.prog 4 Tryd.f4 (OpenSpec.ofChange Rows.pathTextsSpec).bare Rows.pathTextsRow = true := by
  unfold joinedFacts
  rw [j1, j2, j3, j4]
  kernel_rfl

theorem said : Rows.PathTextsSaid :=
  OpenClaim.holds_of_cond 4 Tryd.f4 rfl rfl rfl rfl rfl rfl rfl ⟨rfl, rfl, rfl, rfl, rfl⟩ rfl rfl rfl rfl rfl (by kernel_rfl) Tryd.func4 closed
    (of_decide_eq_true (by kernel_rfl)) (by unfold Func.isWrapper; first | (rw [if_pos (by decide +kernel)]; kernel_rfl) | (rw [if_neg (by decide +kernel)]; exact ⟨rfl, rfl⟩))
    (fun os started H enc _ F => by rw [OpenClaim.pre_eq_preRow]; exact lifted os started H enc F)

theorem plain (f : FuncId) (fn : Func) (hf : Tryd.pinned.checked.prog.funcNamed "touchstone/touchstonelaw06.PathTexts" = some f) (hfn : Tryd.pinned.checked.prog.funcs[f]? = some fn) :
    false = Tryd.pinned.checked.prog.looks [] ∧ ∀ (j : Nat) t, fn.params[j]? = some t → Tryd.pinned.checked.prog.wantsStandIn t = false := by
  obtain rfl : f = 4 := Option.some.inj ((show Tryd.prog.funcNamed "touchstone/touchstonelaw06.PathTexts" = some 4 by kernel_rfl).symm.trans hf) |>.symm
  obtain rfl : fn = Tryd.f4 := (Option.some.inj (Tryd.func4.symm.trans hfn)).symm
  refine ⟨by kernel_rfl, fun j t ht => ?_⟩
  rw [show Tryd.f4.params = #[9] from by kernel_rfl] at ht
  rcases j with _ | j
  · obtain rfl := Option.some.inj (show some 9 = some t from ht)
    kernel_rfl
  · simp at ht

theorem wfa1 : Rows.pathTextsRow.wfByText (OpenSpec.ofChange Rows.pathTextsSpec) = true := by kernel_rfl
theorem wfa2 : Tryd.pinned.checked.prog.mainIs = some (true, "de48588a5a3e3b82316709acc7729f7b6a3f548728d29ee1ff893dd3e1d38900".toList) := by kernel_rfl
theorem wfa3 : false = Rows.pathTextsRow.goesBy Tryd.pinned.checked.prog := by kernel_rfl

/-- The card. -/
theorem proved : Rows.PathTextsCardSaid :=
  Claim7.holds_tied_plain_at .later [] _ _ _ _ said (fun _ h => by cases h) wfa1 (fun _ h => by cases h) pathTexts_row_tie rfl ⟨rfl, rfl⟩ wfa2 rfl plain wfa3
end Go.Proofs.YtfaodjpibdhdjaaDoor
