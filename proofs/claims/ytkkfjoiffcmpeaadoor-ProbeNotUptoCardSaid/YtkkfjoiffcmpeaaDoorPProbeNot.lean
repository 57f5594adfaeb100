/-
  Proved: touchstonelaw14.ProbeNot returns true, and changes nothing. Conditions: none but the tied tables.
-/
import Derived.Test.YtkkfjoiffcmpeaaDoorCards
import Derived.Test.YtkkfjoiffcmpeaaDoorTie
import Derived.WalkKit
import Derived.ProofKit
import Derived.OpenShut
import Derived.Deep.DeepHandedRow
import Derived.Lib.LaidTab
import Derived.Test.YtkkfjoiffcmpeaaDoorAmRf
import Derived.Test.YtkkfjoiffcmpeaaDoorLink
import Derived.Test.YtkkfjoiffcmpeaaDoorLNot
import Derived.Test.YtkkfjoiffcmpeaaDoorAmTyped
import Derived.Test.YtkkfjoiffcmpeaaDoorRTree
set_option linter.all false
set_option linter.unusedVariables false
set_option linter.unusedSimpArgs false
set_option linter.unusedSectionVars false
set_option maxRecDepth 100000
namespace Go.Proofs.YtkkfjoiffcmpeaaDoor
open Go.Proofs.YtkkfjoiffcmpeaaDoor.Am Go.Proofs Go.Proofs.YtkkfjoiffcmpeaaDoor Go.ChangeShapes Go.WideShapes Go.ChangeAt Go.RowKit
theorem own : ownKnob Tryd.prog.godebug = none := by kernel_rfl
theorem laidOut : laidOutB Tryd.prog = true := by kernel_rfl
theorem names_chk : namesChk Tryd.prog = true := by kernel_rfl
theorem mixed : Tryd.prog.follows .mixedOrders = true := by kernel_rfl
theorem ctx : Ctx Tryd.prog gt prog := ctx_of names_chk mixed fns_ok
theorem under4 : Tryd.prog.underlying 4 = some .bool := by kernel_rfl
theorem under22 : Tryd.prog.underlying 22 = some (.slice 9) := by kernel_rfl
theorem under9 : Tryd.prog.underlying 9 = some .string := by kernel_rfl
theorem cells9 : Tryd.prog.cellsOf 9 = 1 := by kernel_rfl
mutual
theorem upto_blk {H : Type} : ∀ d : DataW H, Rows.uptoBulk d = blk d
  | .lit (.string bytes) => by simp [Rows.uptoBulk, blk]
  | .lit (.bool _) => by simp [Rows.uptoBulk, blk]
  | .lit (.int _ _) => by simp [Rows.uptoBulk, blk]
  | .lit (.float _ _) => by simp [Rows.uptoBulk, blk]
  | .lit .nil => by simp [Rows.uptoBulk, blk]
  | .nil => by simp [Rows.uptoBulk, blk]
  | .ptr d => by simp only [Rows.uptoBulk, blk, upto_blk d]
  | .slice e s => by simp only [Rows.uptoBulk, blk, upto_all e, upto_all s]
  | .agg l => by simp only [Rows.uptoBulk, blk, upto_all l]
  | .iface _ d => by simp only [Rows.uptoBulk, blk, upto_blk d]
  | .map l => by simp only [Rows.uptoBulk, blk, upto_ents l]
  | .held _ => by simp [Rows.uptoBulk, blk]
theorem upto_all {H : Type} : ∀ l : List (DataW H), Rows.uptoBulkAll l = blkL l
  | [] => by simp [Rows.uptoBulkAll, blkL]
  | d :: l => by simp only [Rows.uptoBulkAll, blkL, upto_blk d, upto_all l]
theorem upto_ents {H : Type} : ∀ l : List (Lit × DataW H), Rows.uptoBulkEntries l = blkM l
  | [] => by simp [Rows.uptoBulkEntries, blkM]
  | d :: l => by simp only [Rows.uptoBulkEntries, blkM, upto_ent d, upto_ents l]
theorem upto_ent {H : Type} : ∀ l : Lit × DataW H, Rows.uptoBulkEntry l = blkE l
  | (.string b, d) => by simp only [Rows.uptoBulkEntry, blkE, upto_blk d]
  | (.bool _, d) => by simp only [Rows.uptoBulkEntry, blkE, upto_blk d]
  | (.int _ _, d) => by simp only [Rows.uptoBulkEntry, blkE, upto_blk d]
  | (.float _ _, d) => by simp only [Rows.uptoBulkEntry, blkE, upto_blk d]
  | (.nil, d) => by simp only [Rows.uptoBulkEntry, blkE, upto_blk d]
end
theorem contract (H : Type) (enc : TypeId × Value → H) (W : World) (base : Nat) (args : Array Value) (ds gs : List (DataW H)) (before : List MemPlace)
    (hval : ∀ (j : Nat) t v, Tryd.f4.params[j]? = some t → args[j]? = some v → Value.okWide Tryd.prog W .any base t v)
    (hW : DataW.Whole enc Tryd.prog Tryd.f4.params.toList Rows.probeNotSpec.vars false W args.toList ds gs before) (hk : Rows.uptoBulkAll (ds ++ gs) ≤ 1048576) :
    Calls Tryd.prog 4 args W fun e W' => ∃ v, e = .returned v ∧ Rows.probeNotSpec.post enc Tryd.prog Tryd.f4 false true false false W args v W' := by
  have hW' := hW
  obtain ⟨p, q, hA0, hV, rfl, hfz, hnd⟩ := hW
  have hA : DataW.TrodAll enc Tryd.prog W 0 (fun _ => true) true Tryd.f4.params.toList args.toList ds p := hA0
  rw [show Tryd.f4.params.toList = [25, 22, 9] from by kernel_rfl] at hA
  rw [show Tryd.f4.params = #[25, 22, 9] from by kernel_rfl] at hval
  obtain ⟨v0, vs0, d0, ds0, p0, q0, hargs, rfl, rfl, h0, hA⟩ := trodAll_cons hA
  obtain ⟨v1, vs1, d1, ds1, p1, q1, rfl, rfl, rfl, h1, hA⟩ := trodAll_cons hA
  obtain ⟨v2, vs2, d2, ds2, p2, q2, rfl, rfl, rfl, h2, hA⟩ := trodAll_cons hA
  obtain ⟨rfl, rfl, rfl⟩ := trodAll_nil hA
  obtain rfl : args = #[v0, v1, v2] := by cases args; simp_all
  obtain ⟨rfl, rfl⟩ := trodVars_none hV
  have hk : Rows.uptoBulkAll [d0, d1, d2] ≤ 1048576 := hk
  simp only [Rows.uptoBulkAll, upto_blk] at hk
  obtain ⟨m0, r0, t0, z0⟩ := read_argB readable (t := 25) (by decide) (hval 0 25 v0 rfl rfl) h0
  obtain ⟨L0, e0, c0⟩ := read_nodeU (by omega) t0
  rw [e0] at r0
  obtain ⟨L1, r1, l1, t1⟩ := read_strings under22 under9 cells9 (hval 1 22 v1 rfl rfl) h1
  obtain ⟨L2, r2, t2⟩ := read_string1 under9 (hval 2 9 v2 rfl rfl) h2
  obtain ⟨n, hn⟩ := lim_call_iff.1 (not_ok L0 c0.1 (by have := c0.2; omega) L1 t1 L2 t2 s0 ⟨rfl, rfl⟩)
  refine (law_calls (names_of names_chk) ctx (vs := #[v0, v1, v2]) (fun i l h => by cases h) (by simp only [VL]; exact ⟨_, _, rfl, r0, ⟨_, _, rfl, r1, ⟨_, _, rfl, r2, rfl⟩⟩⟩) hn).mono fun e W' ⟨he, hk⟩ => ?_
  exact ⟨_, he, law_post laidOut (by kernel_rfl) rfl (by kernel_rfl) under4 hW' rfl hk⟩
noncomputable def laidWorld (os : Os) : World :=
  { World.holding Tryd.prog os ⟨#[], #[.agg #[.int .u8 0, .string ⟨#[]⟩, .slice none 0 0, .slice none 0 0], .slice none 0 0, .string ⟨#[]⟩], []⟩ with heap := (((World.holding Tryd.prog os ⟨#[], #[.agg #[.int .u8 0, .string ⟨#[]⟩, .slice none 0 0, .slice none 0 0], .slice none 0 0, .string ⟨#[]⟩], []⟩).heap.modify 2 fun
      | .cells _ t frozen => .cells (([128, 191, 160, 191, 128, 159, 144, 191, 128, 143, 0, 0, 0, 0, 0, 0, 0, 0, 0, 0, 0, 0, 0, 0, 0, 0, 0, 0, 0, 0, 0, 0] : List Int).map fun n => Value.int .u8 n).toArray t frozen
      | o => o).modify 1 fun
      | .cells _ t frozen => .cells (Go.Pinned.utf8FirstZ.map fun n => Value.int .u8 (Int.ofNat n)).toArray t frozen
      | o => o) }
theorem laid_met (os : Os) : laidMet Tryd.prog Rows.probeNotUptoRow.laid ((laidWorld os).forCall (fun _ _ => 0) ⟨#[], #[.agg #[.int .u8 0, .string ⟨#[]⟩, .slice none 0 0, .slice none 0 0], .slice none 0 0, .string ⟨#[]⟩], []⟩).memory :=
  laidMet_of_run' 8 (by kernel_rfl) (by kernel_rfl)
theorem reads (os : Os) {H : Type} (enc : TypeId × Value → H) : ∃ places, DataW.whole enc Tryd.prog ((laidWorld os).forCall (fun _ _ => 0) ⟨#[], #[.agg #[.int .u8 0, .string ⟨#[]⟩, .slice none 0 0, .slice none 0 0], .slice none 0 0, .string ⟨#[]⟩], []⟩).memory Tryd.f4.params.toList Rows.probeNotSpec.vars false (#[.agg #[.int .u8 0, .string ⟨#[]⟩, .slice none 0 0, .slice none 0 0], .slice none 0 0, .string ⟨#[]⟩] : Array Value).toList 8 = some ([.agg [.lit (.int .u8 0), .lit (.string []), .nil, .nil], .nil, .lit (.string [])], [], places) :=
  ⟨[], by kernel_rfl⟩
theorem lifted (os : Os) (started : os.Started) (H : Type) (enc : TypeId × Value → H) (F : Stop.Interp) :
    ReturnsInHanded {} Tryd.checked os 4 .any ((Rows.OpenSpec.upto Rows.probeNotSpec).preRow enc Tryd.prog Tryd.f4 Rows.probeNotUptoRow.domain false Rows.probeNotUptoRow.laid) (((Rows.OpenSpec.upto Rows.probeNotSpec).at F).post enc Tryd.prog Tryd.f4 false true false false) := by
  obtain ⟨places, hx⟩ := reads os enc
  refine returnsInHanded_of_row (C := Tryd.checked) (s := Rows.OpenSpec.upto Rows.probeNotSpec) own started (by kernel_rfl) Tryd.func4
    (witness_row_at (enc := enc) (C := Tryd.checked) false (laidWorld os) #[.agg #[.int .u8 0, .string ⟨#[]⟩, .slice none 0 0, .slice none 0 0], .slice none 0 0, .string ⟨#[]⟩] rfl (by kernel_rfl) (by kernel_rfl) (by kernel_rfl)
      (OpenSpec.preRow_of_cond 8 hx (by kernel_rfl) (fun k hk => by cases hk; kernel_rfl) (by kernel_rfl) (laid_met os))) ?_
  intro W base args ds gs before hval hW _ hcond _ hL _ _
  exact contract H enc W base args ds gs before hval hW (of_decide_eq_true (hcond _ rfl))
theorem j1 : (Rows.probeNotUptoRow.inPlace == Tryd.pinned.checked.prog.inPlace 4) = true := by kernel_rfl
theorem j2 : (Rows.probeNotUptoRow.unfollowed == Tryd.pinned.checked.prog.unfollowed 4) = true := by kernel_rfl
theorem j3 : (Rows.probeNotUptoRow.recurses == Tryd.pinned.checked.prog.recurses 4) = true := by kernel_rfl
theorem j4 : (Rows.probeNotUptoRow.named == Tryd.pinned.checked.prog.varsNamed 4) = true := by kernel_rfl
theorem closed : joinedFacts Tryd.pinned.checked.prog 4 Tryd.f4 (Rows.OpenSpec.upto Rows.probeNotSpec).bare Rows.probeNotUptoRow = true := by
  unfold joinedFacts
  rw [j1, j2, j3, j4]
  kernel_rfl
theorem said : Rows.ProbeNotUptoSaid :=
  OpenClaim.holds_of_cond 4 Tryd.f4 rfl rfl rfl rfl rfl rfl rfl ⟨rfl, rfl, rfl, rfl, rfl⟩ rfl rfl rfl rfl rfl (by kernel_rfl) Tryd.func4 closed
    (of_decide_eq_true (by kernel_rfl)) (by unfold Func.isWrapper; first | (rw [if_pos (by decide +kernel)]; kernel_rfl) | (rw [if_neg (by decide +kernel)]; exact ⟨rfl, rfl⟩))
    (fun os started H enc _ F => by rw [OpenClaim.pre_eq_preRow]; exact lifted os started H enc F)
theorem plain (f : FuncId) (fn : Func) (hf : Tryd.pinned.checked.prog.funcNamed "touchstone/touchstonelaw14.ProbeNot" = some f) (hfn : Tryd.pinned.checked.prog.funcs[f]? = some fn) :
    false = Tryd.pinned.checked.prog.looks [] ∧ ∀ (j : Nat) t, fn.params[j]? = some t → Tryd.pinned.checked.prog.wantsStandIn t = false := by
  obtain rfl : f = 4 := Option.some.inj ((show Tryd.prog.funcNamed "touchstone/touchstonelaw14.ProbeNot" = some 4 by kernel_rfl).symm.trans hf) |>.symm
  obtain rfl : fn = Tryd.f4 := (Option.some.inj (Tryd.func4.symm.trans hfn)).symm
  refine ⟨by kernel_rfl, fun j t ht => ?_⟩
  rw [show Tryd.f4.params = #[25, 22, 9] from by kernel_rfl] at ht
  rcases j with _ | _ | _ | j
  · obtain rfl := Option.some.inj (show some 25 = some t from ht)
    kernel_rfl
  · obtain rfl := Option.some.inj (show some 22 = some t from ht)
    kernel_rfl
  · obtain rfl := Option.some.inj (show some 9 = some t from ht)
    kernel_rfl
  · simp at ht
theorem wfa1 : Rows.probeNotUptoRow.wfByText (Rows.OpenSpec.upto Rows.probeNotSpec) = true := by kernel_rfl
theorem wfa2 : Tryd.pinned.checked.prog.mainIs = some (true, "111ba91d3b733ee005f8f4c0b80d1fb86a20373066c03c9d09e452b8b32247de".toList) := by kernel_rfl
theorem wfa3 : false = Rows.probeNotUptoRow.goesBy Tryd.pinned.checked.prog := by kernel_rfl
theorem proved : Rows.ProbeNotUptoCardSaid :=
  Claim7.holds_tied_plain_at .later [] _ _ _ _ said (fun _ h => by cases h) wfa1 (fun _ h => by cases h) probeNotUpto_row_tie rfl ⟨rfl, rfl⟩ wfa2 rfl plain wfa3
end Go.Proofs.YtkkfjoiffcmpeaaDoor
