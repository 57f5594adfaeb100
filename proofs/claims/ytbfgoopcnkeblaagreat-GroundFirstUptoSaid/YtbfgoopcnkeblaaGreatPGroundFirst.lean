/-
  Proved: touchstonelaw25.GroundFirst returns true, and changes nothing. Conditions: what is read is of bulk at most 1048576.
-/
import Derived.Test.YtbfgoopcnkeblaaGreatRows
import Derived.WalkKit
import Derived.ProofKit
import Derived.Test.YtbfgoopcnkeblaaGreatAmKeep
import Derived.Test.YtbfgoopcnkeblaaGreatLink
import Derived.Test.YtbfgoopcnkeblaaGreatRFirst
import Derived.Test.YtbfgoopcnkeblaaGreatLFirst2
set_option linter.all false
set_option linter.unusedVariables false
set_option linter.unusedSimpArgs false
set_option linter.unusedSectionVars false
set_option maxRecDepth 100000
namespace Go.Proofs.YtbfgoopcnkeblaaGreat
open Go.Proofs.YtbfgoopcnkeblaaGreat.Am Go.Proofs Go.ChangeShapes Go.WideShapes Go.ChangeAt Go.RowKit
theorem own : ownKnob Tryz.prog.godebug = none := by kernel_rfl
theorem ZP : laidOutB Tryz.prog = true := by kernel_rfl
theorem QH : LF Tryz.prog = true := by kernel_rfl
theorem mixed : Tryz.prog.follows .mixedOrders = true := by kernel_rfl
theorem ctx : Ctx Tryz.prog gt prog := XN QH mixed fns_ok
theorem under4 : Tryz.prog.underlying 4 = some .bool := by kernel_rfl
mutual
theorem Fg {H : Type} : ∀ d : DataW H, YtbfgoopcnkeblaaGreat.Rows.uptoBulk d = blk d
 | .lit (.string bytes) => by simp [YtbfgoopcnkeblaaGreat.Rows.uptoBulk, blk]
 | .lit (.bool _) => by simp [YtbfgoopcnkeblaaGreat.Rows.uptoBulk, blk]
 | .lit (.int _ _) => by simp [YtbfgoopcnkeblaaGreat.Rows.uptoBulk, blk]
 | .lit (.float _ _) => by simp [YtbfgoopcnkeblaaGreat.Rows.uptoBulk, blk]
 | .lit .nil => by simp [YtbfgoopcnkeblaaGreat.Rows.uptoBulk, blk]
 | .nil => by simp [YtbfgoopcnkeblaaGreat.Rows.uptoBulk, blk]
 | .ptr d => by simp only [YtbfgoopcnkeblaaGreat.Rows.uptoBulk, blk, Fg d]
 | .slice e s => by simp only [YtbfgoopcnkeblaaGreat.Rows.uptoBulk, blk, LP e, LP s]
 | .agg l => by simp only [YtbfgoopcnkeblaaGreat.Rows.uptoBulk, blk, LP l]
 | .iface _ d => by simp only [YtbfgoopcnkeblaaGreat.Rows.uptoBulk, blk, Fg d]
 | .map l => by simp only [YtbfgoopcnkeblaaGreat.Rows.uptoBulk, blk, QI l]
 | .held _ => by simp [YtbfgoopcnkeblaaGreat.Rows.uptoBulk, blk]
theorem LP {H : Type} : ∀ l : List (DataW H), YtbfgoopcnkeblaaGreat.Rows.uptoBulkAll l = blkL l
 | [] => by simp [YtbfgoopcnkeblaaGreat.Rows.uptoBulkAll, blkL]
 | d :: l => by simp only [YtbfgoopcnkeblaaGreat.Rows.uptoBulkAll, blkL, Fg d, LP l]
theorem QI {H : Type} : ∀ l : List (Lit × DataW H), YtbfgoopcnkeblaaGreat.Rows.uptoBulkEntries l = blkM l
 | [] => by simp [YtbfgoopcnkeblaaGreat.Rows.uptoBulkEntries, blkM]
 | d :: l => by simp only [YtbfgoopcnkeblaaGreat.Rows.uptoBulkEntries, blkM, XI d, QI l]
theorem XI {H : Type} : ∀ l : Lit × DataW H, YtbfgoopcnkeblaaGreat.Rows.uptoBulkEntry l = blkE l
 | (.string b, d) => by simp only [YtbfgoopcnkeblaaGreat.Rows.uptoBulkEntry, blkE, Fg d]
 | (.bool _, d) => by simp only [YtbfgoopcnkeblaaGreat.Rows.uptoBulkEntry, blkE, Fg d]
 | (.int _ _, d) => by simp only [YtbfgoopcnkeblaaGreat.Rows.uptoBulkEntry, blkE, Fg d]
 | (.float _ _, d) => by simp only [YtbfgoopcnkeblaaGreat.Rows.uptoBulkEntry, blkE, Fg d]
 | (.nil, d) => by simp only [YtbfgoopcnkeblaaGreat.Rows.uptoBulkEntry, blkE, Fg d]
end
theorem Ji (H : Type) (enc : TypeId × Value → H) (W : World) (base : Nat) (args : Array Value) (ds gs : List (DataW H)) (before : List MemPlace)
    (hval : ∀ (j : Nat) t v, Tryz.f5.params[j]? = some t → args[j]? = some v → Value.okWide Tryz.prog W .any base t v)
    (hW : DataW.Whole enc Tryz.prog Tryz.f5.params.toList YtbfgoopcnkeblaaGreat.Rows.groundFirstSpec.vars false W args.toList ds gs before) (hk : YtbfgoopcnkeblaaGreat.Rows.uptoBulkAll (ds ++ gs) ≤ 1048576) :
    Calls Tryz.prog 5 args W fun e W' => ∃ v, e = .returned v ∧ YtbfgoopcnkeblaaGreat.Rows.groundFirstSpec.post enc Tryz.prog Tryz.f5 false true false false W args v W' := by
 have hW' := hW
 obtain ⟨p, q, hA0, hV, rfl, hfz, hnd⟩ := hW
 have hA : DataW.TrodAll enc Tryz.prog W 0 (fun _ => true) true Tryz.f5.params.toList args.toList ds p := hA0
 rw [show Tryz.f5.params.toList = [30, 27, 30] from by kernel_rfl] at hA
 rw [show Tryz.f5.params = #[30, 27, 30] from by kernel_rfl] at hval
 obtain ⟨v0, vs0, d0, ds0, p0, q0, hargs, rfl, rfl, h0, hA⟩ := trodAll_cons hA
 obtain ⟨v1, vs1, d1, ds1, p1, q1, rfl, rfl, rfl, h1, hA⟩ := trodAll_cons hA
 obtain ⟨v2, vs2, d2, ds2, p2, q2, rfl, rfl, rfl, h2, hA⟩ := trodAll_cons hA
 obtain ⟨rfl, rfl, rfl⟩ := trodAll_nil hA
 obtain rfl : args = #[v0, v1, v2] := by cases args; simp_all
 obtain ⟨rfl, rfl⟩ := trodVars_none hV
 have hk : YtbfgoopcnkeblaaGreat.Rows.uptoBulkAll [d0, d1, d2] ≤ 1048576 := hk
 simp only [YtbfgoopcnkeblaaGreat.Rows.uptoBulkAll, Fg] at hk
 obtain ⟨m0, r0, t0, z0⟩ := L5 OX (t := 30) (by decide) (hval 0 30 v0 rfl rfl) h0
 obtain ⟨L0, e0, c0⟩ := Na (by omega) t0
 rw [e0] at r0
 obtain ⟨m1, r1, t1, z1⟩ := L5 OX (t := 27) (by decide) (hval 1 27 v1 rfl rfl) h1
 obtain ⟨L1, e1, c1⟩ := Q4 (by omega) t1
 rw [e1] at r1
 obtain ⟨m2, r2, t2, z2⟩ := L5 OX (t := 30) (by decide) (hval 2 30 v2 rfl rfl) h2
 obtain ⟨L2, e2, c2⟩ := Na (by omega) t2
 rw [e2] at r2
 obtain ⟨n, hn⟩ := Bk.1 (MJ L0 c0.1 (by have := c0.2; omega) L1 ⟨c1.1, by have := c1.2.1; omega, by have := c1.2.2; omega⟩ L2 c2.1 (by have := c2.2; omega) s0 ⟨rfl, rfl⟩)
 refine (Oo (RC QH) ctx (vs := #[v0, v1, v2]) (fun i l h => by cases h) (by simp only [VL]; exact ⟨_, _, rfl, r0, ⟨_, _, rfl, r1, ⟨_, _, rfl, r2, rfl⟩⟩⟩) hn).mono fun e W' ⟨he, hk⟩ => ?_
 exact ⟨_, he, Vy ZP (by kernel_rfl) rfl (by kernel_rfl) under4 hW' rfl hk⟩
theorem lifted (os : Os) (started : os.Started) (H : Type) (enc : TypeId × Value → H) (F : Stop.Interp) :
    ReturnsInHanded {} Tryz.checked os 5 .any ((YtbfgoopcnkeblaaGreat.Rows.OpenSpec.upto YtbfgoopcnkeblaaGreat.Rows.groundFirstSpec).pre6 enc Tryz.prog Tryz.f5 YtbfgoopcnkeblaaGreat.Rows.groundFirstUptoRow.domain false) (((YtbfgoopcnkeblaaGreat.Rows.OpenSpec.upto YtbfgoopcnkeblaaGreat.Rows.groundFirstSpec).at F).post enc Tryz.prog Tryz.f5 false true false false) := by
 refine returnsInHanded_of_cond (C := Tryz.checked) (s := YtbfgoopcnkeblaaGreat.Rows.OpenSpec.upto YtbfgoopcnkeblaaGreat.Rows.groundFirstSpec) (k := YtbfgoopcnkeblaaGreat.Rows.uptoSmall) rfl own started (by kernel_rfl) Tryz.func5
  (OpenSpec.witness (enc := enc) (C := Tryz.checked) (s := YtbfgoopcnkeblaaGreat.Rows.OpenSpec.upto YtbfgoopcnkeblaaGreat.Rows.groundFirstSpec) (k := YtbfgoopcnkeblaaGreat.Rows.uptoSmall) rfl false ⟨#[], #[.agg #[.int .u8 0, .string ⟨#[]⟩, .slice none 0 0, .slice none 0 0], .slice none 0 0, .agg #[.int .u8 0, .string ⟨#[]⟩, .slice none 0 0, .slice none 0 0]], []⟩ 8 (by kernel_rfl) (by kernel_rfl) (by kernel_rfl)
   (x := ([.agg [.lit (.int .u8 0), .lit (.string []), .nil, .nil], .nil, .agg [.lit (.int .u8 0), .lit (.string []), .nil, .nil]], [], [])) (by kernel_rfl) rfl (by kernel_rfl)) ?_
 intro W base args ds gs before hval hW _ hk _
 exact Ji H enc W base args ds gs before hval hW (of_decide_eq_true hk)
theorem j1 : (YtbfgoopcnkeblaaGreat.Rows.groundFirstUptoRow.inPlace == YtbfgoopcnkeblaaGreat.Tryz.pinned.checked.prog.inPlace 5) = true := by kernel_rfl
theorem j2 : (YtbfgoopcnkeblaaGreat.Rows.groundFirstUptoRow.unfollowed == YtbfgoopcnkeblaaGreat.Tryz.pinned.checked.prog.unfollowed 5) = true := by kernel_rfl
theorem j3 : (YtbfgoopcnkeblaaGreat.Rows.groundFirstUptoRow.recurses == YtbfgoopcnkeblaaGreat.Tryz.pinned.checked.prog.recurses 5) = true := by kernel_rfl
theorem j4 : (YtbfgoopcnkeblaaGreat.Rows.groundFirstUptoRow.named == YtbfgoopcnkeblaaGreat.Tryz.pinned.checked.prog.varsNamed 5) = true := by kernel_rfl
theorem Xj : joinedFacts YtbfgoopcnkeblaaGreat.Tryz.pinned.checked.prog 5 Tryz.f5 (YtbfgoopcnkeblaaGreat.Rows.OpenSpec.upto YtbfgoopcnkeblaaGreat.Rows.groundFirstSpec).bare YtbfgoopcnkeblaaGreat.Rows.groundFirstUptoRow = true := by
 unfold joinedFacts
 rw [j1, j2, j3, j4]
 kernel_rfl
theorem proved : YtbfgoopcnkeblaaGreat.Rows.GroundFirstUptoSaid :=
 OpenClaim.holds_of_cond 5 Tryz.f5 rfl rfl rfl rfl rfl rfl rfl ⟨rfl, rfl, rfl, rfl, rfl⟩ rfl rfl rfl rfl rfl (by kernel_rfl) Tryz.func5 Xj
  (of_decide_eq_true (by kernel_rfl)) (by unfold Func.isWrapper; first | (rw [if_pos (by decide +kernel)]; kernel_rfl) | (rw [if_neg (by decide +kernel)]; exact ⟨rfl, rfl⟩))
  (fun os started H enc _ F => lifted os started H enc F)
end Go.Proofs.YtbfgoopcnkeblaaGreat
