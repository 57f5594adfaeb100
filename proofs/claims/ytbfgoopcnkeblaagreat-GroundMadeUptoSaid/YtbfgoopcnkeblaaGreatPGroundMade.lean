/-
  Proved: touchstonelaw25.GroundMade returns true, and changes nothing. Conditions: what is read is of bulk at most 1048576.
-/
import Derived.Test.YtbfgoopcnkeblaaGreatRows
import Derived.WalkKit
import Derived.ProofKit
import Derived.Test.YtbfgoopcnkeblaaGreatAmKeep
import Derived.Test.YtbfgoopcnkeblaaGreatLink
import Derived.Test.YtbfgoopcnkeblaaGreatRTerm
import Derived.Test.YtbfgoopcnkeblaaGreatLTermE
set_option linter.all false
set_option linter.unusedVariables false
set_option linter.unusedSimpArgs false
set_option linter.unusedSectionVars false
set_option maxRecDepth 100000
namespace Go.Proofs.YtbfgoopcnkeblaaGreat
open Go.Proofs.YtbfgoopcnkeblaaGreat.Am Go.Proofs Go.ChangeShapes Go.WideShapes Go.ChangeAt Go.RowKit
theorem own : ownKnob Tryz.prog.godebug = none := by kernel_rfl
theorem Vl : laidOutB Tryz.prog = true := by kernel_rfl
theorem Nh : L8 Tryz.prog = true := by kernel_rfl
theorem mixed : Tryz.prog.follows .mixedOrders = true := by kernel_rfl
theorem ctx : Ctx Tryz.prog gt prog := Vv Nh mixed fns_ok
theorem under4 : Tryz.prog.underlying 4 = some .bool := by kernel_rfl
mutual
theorem Eh {H : Type} : ∀ d : DataW H, YtbfgoopcnkeblaaGreat.Rows.uptoBulk d = blk d
 | .lit (.string bytes) => by simp [YtbfgoopcnkeblaaGreat.Rows.uptoBulk, blk]
 | .lit (.bool _) => by simp [YtbfgoopcnkeblaaGreat.Rows.uptoBulk, blk]
 | .lit (.int _ _) => by simp [YtbfgoopcnkeblaaGreat.Rows.uptoBulk, blk]
 | .lit (.float _ _) => by simp [YtbfgoopcnkeblaaGreat.Rows.uptoBulk, blk]
 | .lit .nil => by simp [YtbfgoopcnkeblaaGreat.Rows.uptoBulk, blk]
 | .nil => by simp [YtbfgoopcnkeblaaGreat.Rows.uptoBulk, blk]
 | .ptr d => by simp only [YtbfgoopcnkeblaaGreat.Rows.uptoBulk, blk, Eh d]
 | .slice e s => by simp only [YtbfgoopcnkeblaaGreat.Rows.uptoBulk, blk, Ju e, Ju s]
 | .agg l => by simp only [YtbfgoopcnkeblaaGreat.Rows.uptoBulk, blk, Ju l]
 | .iface _ d => by simp only [YtbfgoopcnkeblaaGreat.Rows.uptoBulk, blk, Eh d]
 | .map l => by simp only [YtbfgoopcnkeblaaGreat.Rows.uptoBulk, blk, Ni l]
 | .held _ => by simp [YtbfgoopcnkeblaaGreat.Rows.uptoBulk, blk]
theorem Ju {H : Type} : ∀ l : List (DataW H), YtbfgoopcnkeblaaGreat.Rows.uptoBulkAll l = blkL l
 | [] => by simp [YtbfgoopcnkeblaaGreat.Rows.uptoBulkAll, blkL]
 | d :: l => by simp only [YtbfgoopcnkeblaaGreat.Rows.uptoBulkAll, blkL, Eh d, Ju l]
theorem Ni {H : Type} : ∀ l : List (Lit × DataW H), YtbfgoopcnkeblaaGreat.Rows.uptoBulkEntries l = blkM l
 | [] => by simp [YtbfgoopcnkeblaaGreat.Rows.uptoBulkEntries, blkM]
 | d :: l => by simp only [YtbfgoopcnkeblaaGreat.Rows.uptoBulkEntries, blkM, Td d, Ni l]
theorem Td {H : Type} : ∀ l : Lit × DataW H, YtbfgoopcnkeblaaGreat.Rows.uptoBulkEntry l = blkE l
 | (.string b, d) => by simp only [YtbfgoopcnkeblaaGreat.Rows.uptoBulkEntry, blkE, Eh d]
 | (.bool _, d) => by simp only [YtbfgoopcnkeblaaGreat.Rows.uptoBulkEntry, blkE, Eh d]
 | (.int _ _, d) => by simp only [YtbfgoopcnkeblaaGreat.Rows.uptoBulkEntry, blkE, Eh d]
 | (.float _ _, d) => by simp only [YtbfgoopcnkeblaaGreat.Rows.uptoBulkEntry, blkE, Eh d]
 | (.nil, d) => by simp only [YtbfgoopcnkeblaaGreat.Rows.uptoBulkEntry, blkE, Eh d]
end
theorem Mc (H : Type) (enc : TypeId × Value → H) (W : World) (base : Nat) (args : Array Value) (ds gs : List (DataW H)) (before : List MemPlace)
    (hval : ∀ (j : Nat) t v, Tryz.f4.params[j]? = some t → args[j]? = some v → Value.okWide Tryz.prog W .any base t v)
    (hW : DataW.Whole enc Tryz.prog Tryz.f4.params.toList YtbfgoopcnkeblaaGreat.Rows.groundMadeSpec.vars false W args.toList ds gs before) (hk : YtbfgoopcnkeblaaGreat.Rows.uptoBulkAll (ds ++ gs) ≤ 1048576) :
    Calls Tryz.prog 4 args W fun e W' => ∃ v, e = .returned v ∧ YtbfgoopcnkeblaaGreat.Rows.groundMadeSpec.post enc Tryz.prog Tryz.f4 false true false false W args v W' := by
 have hW' := hW
 obtain ⟨p, q, hA0, hV, rfl, hfz, hnd⟩ := hW
 have hA : DataW.TrodAll enc Tryz.prog W 0 (fun _ => true) true Tryz.f4.params.toList args.toList ds p := hA0
 rw [show Tryz.f4.params.toList = [34, 30] from by kernel_rfl] at hA
 rw [show Tryz.f4.params = #[34, 30] from by kernel_rfl] at hval
 obtain ⟨v0, vs0, d0, ds0, p0, q0, hargs, rfl, rfl, h0, hA⟩ := trodAll_cons hA
 obtain ⟨v1, vs1, d1, ds1, p1, q1, rfl, rfl, rfl, h1, hA⟩ := trodAll_cons hA
 obtain ⟨rfl, rfl, rfl⟩ := trodAll_nil hA
 obtain rfl : args = #[v0, v1] := by cases args; simp_all
 obtain ⟨rfl, rfl⟩ := trodVars_none hV
 have hk : YtbfgoopcnkeblaaGreat.Rows.uptoBulkAll [d0, d1] ≤ 1048576 := hk
 simp only [YtbfgoopcnkeblaaGreat.Rows.uptoBulkAll, Eh] at hk
 obtain ⟨m0, r0, t0, z0⟩ := NC PW (t := 34) (by decide) (hval 0 34 v0 rfl rfl) h0
 obtain ⟨L0, e0, c0⟩ := QF (by omega) t0
 rw [e0] at r0
 obtain ⟨m1, r1, t1, z1⟩ := NC PW (t := 30) (by decide) (hval 1 30 v1 rfl rfl) h1
 obtain ⟨L1, e1, c1⟩ := QD (by omega) t1
 rw [e1] at r1
 obtain ⟨n, hn⟩ := Bk.1 (LJ L0 c0.1 (by have := c0.2; omega) L1 c1.1 (by have := c1.2; omega) s0 ⟨rfl, rfl⟩)
 refine (Qc (SM Nh) ctx (vs := #[v0, v1]) (fun i l h => by cases h) (by simp only [VL]; exact ⟨_, _, rfl, r0, ⟨_, _, rfl, r1, rfl⟩⟩) hn).mono fun e W' ⟨he, hk⟩ => ?_
 exact ⟨_, he, SR Vl (by kernel_rfl) rfl (by kernel_rfl) under4 hW' rfl hk⟩
theorem lifted (os : Os) (started : os.Started) (H : Type) (enc : TypeId × Value → H) (F : Stop.Interp) :
    ReturnsInHanded {} Tryz.checked os 4 .any ((YtbfgoopcnkeblaaGreat.Rows.OpenSpec.upto YtbfgoopcnkeblaaGreat.Rows.groundMadeSpec).pre6 enc Tryz.prog Tryz.f4 YtbfgoopcnkeblaaGreat.Rows.groundMadeUptoRow.domain false) (((YtbfgoopcnkeblaaGreat.Rows.OpenSpec.upto YtbfgoopcnkeblaaGreat.Rows.groundMadeSpec).at F).post enc Tryz.prog Tryz.f4 false true false false) := by
 refine returnsInHanded_of_cond (C := Tryz.checked) (s := YtbfgoopcnkeblaaGreat.Rows.OpenSpec.upto YtbfgoopcnkeblaaGreat.Rows.groundMadeSpec) (k := YtbfgoopcnkeblaaGreat.Rows.uptoSmall) rfl own started (by kernel_rfl) Tryz.func4
  (OpenSpec.witness (enc := enc) (C := Tryz.checked) (s := YtbfgoopcnkeblaaGreat.Rows.OpenSpec.upto YtbfgoopcnkeblaaGreat.Rows.groundMadeSpec) (k := YtbfgoopcnkeblaaGreat.Rows.uptoSmall) rfl false ⟨#[], #[.agg #[.int .i64 0, .int .u8 0, .string ⟨#[]⟩, .int .i64 0, .slice none 0 0, .slice none 0 0], .agg #[.int .u8 0, .string ⟨#[]⟩, .slice none 0 0, .slice none 0 0]], []⟩ 8 (by kernel_rfl) (by kernel_rfl) (by kernel_rfl)
   (x := ([.agg [.lit (.int .i64 0), .lit (.int .u8 0), .lit (.string []), .lit (.int .i64 0), .nil, .nil], .agg [.lit (.int .u8 0), .lit (.string []), .nil, .nil]], [], [])) (by kernel_rfl) rfl (by kernel_rfl)) ?_
 intro W base args ds gs before hval hW _ hk _
 exact Mc H enc W base args ds gs before hval hW (of_decide_eq_true hk)
theorem j1 : (YtbfgoopcnkeblaaGreat.Rows.groundMadeUptoRow.inPlace == YtbfgoopcnkeblaaGreat.Tryz.pinned.checked.prog.inPlace 4) = true := by kernel_rfl
theorem j2 : (YtbfgoopcnkeblaaGreat.Rows.groundMadeUptoRow.unfollowed == YtbfgoopcnkeblaaGreat.Tryz.pinned.checked.prog.unfollowed 4) = true := by kernel_rfl
theorem j3 : (YtbfgoopcnkeblaaGreat.Rows.groundMadeUptoRow.recurses == YtbfgoopcnkeblaaGreat.Tryz.pinned.checked.prog.recurses 4) = true := by kernel_rfl
theorem j4 : (YtbfgoopcnkeblaaGreat.Rows.groundMadeUptoRow.named == YtbfgoopcnkeblaaGreat.Tryz.pinned.checked.prog.varsNamed 4) = true := by kernel_rfl
theorem closed : joinedFacts YtbfgoopcnkeblaaGreat.Tryz.pinned.checked.prog 4 Tryz.f4 (YtbfgoopcnkeblaaGreat.Rows.OpenSpec.upto YtbfgoopcnkeblaaGreat.Rows.groundMadeSpec).bare YtbfgoopcnkeblaaGreat.Rows.groundMadeUptoRow = true := by
 unfold joinedFacts
 rw [j1, j2, j3, j4]
 kernel_rfl
theorem proved : YtbfgoopcnkeblaaGreat.Rows.GroundMadeUptoSaid :=
 OpenClaim.holds_of_cond 4 Tryz.f4 rfl rfl rfl rfl rfl rfl rfl ⟨rfl, rfl, rfl, rfl, rfl⟩ rfl rfl rfl rfl rfl (by kernel_rfl) Tryz.func4 closed
  (of_decide_eq_true (by kernel_rfl)) (by unfold Func.isWrapper; first | (rw [if_pos (by decide +kernel)]; kernel_rfl) | (rw [if_neg (by decide +kernel)]; exact ⟨rfl, rfl⟩))
  (fun os started H enc _ F => lifted os started H enc F)
end Go.Proofs.YtbfgoopcnkeblaaGreat
