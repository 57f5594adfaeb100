/-
  Proved: touchstonelaw05.ExpandSets returns true, and changes nothing. Conditions: what is read is of bulk at most 1048576.
-/
import Derived.Test.YtfpoihibfajhlaaRows
import Derived.WalkKit
import Derived.ProofKit
import Derived.Test.YtfpoihibfajhlaaAmKeep
import Derived.Test.YtfpoihibfajhlaaLink
import Derived.Test.YtfpoihibfajhlaaRSets
import Derived.Test.YtfpoihibfajhlaaLE8
set_option linter.all false
set_option linter.unusedVariables false
set_option linter.unusedSimpArgs false
set_option linter.unusedSectionVars false
set_option maxRecDepth 100000
namespace Go.Proofs.Ytfpoihibfajhlaa
open Go.Proofs.Ytfpoihibfajhlaa.Am Go.Proofs Go.ChangeShapes Go.WideShapes Go.ChangeAt Go.RowKit
theorem own:ownKnob Try.prog.godebug=none:=by kernel_rfl
theorem Rh:laidOutB Try.prog=true:=by kernel_rfl
theorem LH:Jc Try.prog=true:=by kernel_rfl
theorem mixed:Try.prog.follows .mixedOrders=true:=by kernel_rfl
theorem ctx:Ctx Try.prog gt prog:=Rm LH mixed fns_ok
theorem under4:Try.prog.underlying 4=some .bool:=by kernel_rfl
mutual
theorem Dy {H:Type}:∀ d:DataW H,Ytfpoihibfajhlaa.Rows.uptoBulk d=blk d
 | .lit (.string bytes)=>by simp [Ytfpoihibfajhlaa.Rows.uptoBulk,blk]
 | .lit (.bool _)=>by simp [Ytfpoihibfajhlaa.Rows.uptoBulk,blk]
 | .lit (.int _ _)=>by simp [Ytfpoihibfajhlaa.Rows.uptoBulk,blk]
 | .lit (.float _ _)=>by simp [Ytfpoihibfajhlaa.Rows.uptoBulk,blk]
 | .lit .nil=>by simp [Ytfpoihibfajhlaa.Rows.uptoBulk,blk]
 | .nil=>by simp [Ytfpoihibfajhlaa.Rows.uptoBulk,blk]
 | .ptr d=>by simp only [Ytfpoihibfajhlaa.Rows.uptoBulk,blk,Dy d]
 | .slice e s=>by simp only [Ytfpoihibfajhlaa.Rows.uptoBulk,blk,Hr e,Hr s]
 | .agg l=>by simp only [Ytfpoihibfajhlaa.Rows.uptoBulk,blk,Hr l]
 | .iface _ d=>by simp only [Ytfpoihibfajhlaa.Rows.uptoBulk,blk,Dy d]
 | .map l=>by simp only [Ytfpoihibfajhlaa.Rows.uptoBulk,blk,LI l]
 | .held _=>by simp [Ytfpoihibfajhlaa.Rows.uptoBulk,blk]
theorem Hr {H:Type}:∀ l:List (DataW H),Ytfpoihibfajhlaa.Rows.uptoBulkAll l=blkL l
 | []=>by simp [Ytfpoihibfajhlaa.Rows.uptoBulkAll,blkL]
 | d::l=>by simp only [Ytfpoihibfajhlaa.Rows.uptoBulkAll,blkL,Dy d,Hr l]
theorem LI {H:Type}:∀ l:List (Lit×DataW H),Ytfpoihibfajhlaa.Rows.uptoBulkEntries l=blkM l
 | []=>by simp [Ytfpoihibfajhlaa.Rows.uptoBulkEntries,blkM]
 | d::l=>by simp only [Ytfpoihibfajhlaa.Rows.uptoBulkEntries,blkM,Pp d,LI l]
theorem Pp {H:Type}:∀ l:Lit×DataW H,Ytfpoihibfajhlaa.Rows.uptoBulkEntry l=blkE l
 | (.string b,d)=>by simp only [Ytfpoihibfajhlaa.Rows.uptoBulkEntry,blkE,Dy d]
 | (.bool _,d)=>by simp only [Ytfpoihibfajhlaa.Rows.uptoBulkEntry,blkE,Dy d]
 | (.int _ _,d)=>by simp only [Ytfpoihibfajhlaa.Rows.uptoBulkEntry,blkE,Dy d]
 | (.float _ _,d)=>by simp only [Ytfpoihibfajhlaa.Rows.uptoBulkEntry,blkE,Dy d]
 | (.nil,d)=>by simp only [Ytfpoihibfajhlaa.Rows.uptoBulkEntry,blkE,Dy d]
end
theorem Mf (H:Type) (enc:TypeId×Value→H) (W:World) (base:Nat) (args:Array Value) (ds gs:List (DataW H)) (before:List MemPlace)
    (hval:∀ (j:Nat) t v,Try.f3.params[j]? = some t→args[j]? = some v→Value.okWide Try.prog W .any base t v)
    (hW:DataW.Whole enc Try.prog Try.f3.params.toList Ytfpoihibfajhlaa.Rows.expandSetsSpec.vars false W args.toList ds gs before) (hk:Ytfpoihibfajhlaa.Rows.uptoBulkAll (ds++gs)≤1048576) :
    Calls Try.prog 3 args W fun e W'=>∃ v,e=.returned v∧Ytfpoihibfajhlaa.Rows.expandSetsSpec.post enc Try.prog Try.f3 false true false false W args v W':=by
 have hW':=hW
 obtain ⟨p,q,hA0,hV,rfl,hfz,hnd⟩:=hW
 have hA:DataW.TrodAll enc Try.prog W 0 (fun _=>true) true Try.f3.params.toList args.toList ds p:=hA0
 rw [show Try.f3.params.toList=[24,9,9] from by kernel_rfl] at hA
 rw [show Try.f3.params=#[24,9,9] from by kernel_rfl] at hval
 obtain ⟨v0,vs0,d0,ds0,p0,q0,hargs,rfl,rfl,h0,hA⟩:=trodAll_cons hA
 obtain ⟨v1,vs1,d1,ds1,p1,q1,rfl,rfl,rfl,h1,hA⟩:=trodAll_cons hA
 obtain ⟨v2,vs2,d2,ds2,p2,q2,rfl,rfl,rfl,h2,hA⟩:=trodAll_cons hA
 obtain ⟨rfl,rfl,rfl⟩:=trodAll_nil hA
 obtain rfl:args=#[v0,v1,v2]:=by cases args; simp_all
 obtain ⟨rfl,rfl⟩:=trodVars_none hV
 have hk:Ytfpoihibfajhlaa.Rows.uptoBulkAll [d0,d1,d2]≤1048576:=hk
 simp only [Ytfpoihibfajhlaa.Rows.uptoBulkAll,Dy] at hk
 obtain ⟨m0,r0,t0,z0⟩:=Ii J5 (t:=24) (by decide) (hval 0 24 v0 rfl rfl) h0
 obtain ⟨L0,e0,c0⟩:=M6 (by omega) t0
 rw [e0] at r0
 obtain ⟨m1,r1,t1,z1⟩:=Ii J5 (t:=9) (by decide) (hval 1 9 v1 rfl rfl) h1
 obtain ⟨L1,e1,c1⟩:=JN (by omega) t1
 rw [e1] at r1
 obtain ⟨m2,r2,t2,z2⟩:=Ii J5 (t:=9) (by decide) (hval 2 9 v2 rfl rfl) h2
 obtain ⟨L2,e2,c2⟩:=JN (by omega) t2
 rw [e2] at r2
 obtain ⟨n,hn⟩:=BC.1 (J1 L0 c0.1 c0.2 L1 L2 c1.1 (by have:=c1.2; omega) s0 ⟨rfl,rfl⟩)
 refine (NR (On LH) ctx (vs:=#[v0,v1,v2]) (fun i l h=>by cases h) (by simp only [VL]; exact ⟨_,_,rfl,r0,⟨_,_,rfl,r1,⟨_,_,rfl,r2,rfl⟩⟩⟩) hn).mono fun e W' ⟨he,hk⟩=>?_
 exact ⟨_,he,Ow Rh (by kernel_rfl) rfl (by kernel_rfl) under4 hW' rfl hk⟩
theorem lifted (os:Os) (started:os.Started) (H:Type) (enc:TypeId×Value→H) (F:Stop.Interp) :
    ReturnsInHanded {} Try.checked os 3 .any ((Ytfpoihibfajhlaa.Rows.OpenSpec.upto Ytfpoihibfajhlaa.Rows.expandSetsSpec).pre6 enc Try.prog Try.f3 Ytfpoihibfajhlaa.Rows.expandSetsUptoRow.domain false) (((Ytfpoihibfajhlaa.Rows.OpenSpec.upto Ytfpoihibfajhlaa.Rows.expandSetsSpec).at F).post enc Try.prog Try.f3 false true false false):=by
 refine returnsInHanded_of_cond (C:=Try.checked) (s:=Ytfpoihibfajhlaa.Rows.OpenSpec.upto Ytfpoihibfajhlaa.Rows.expandSetsSpec) (k:=Ytfpoihibfajhlaa.Rows.uptoSmall) rfl own started (by kernel_rfl) Try.func3
  (OpenSpec.witness (enc:=enc) (C:=Try.checked) (s:=Ytfpoihibfajhlaa.Rows.OpenSpec.upto Ytfpoihibfajhlaa.Rows.expandSetsSpec) (k:=Ytfpoihibfajhlaa.Rows.uptoSmall) rfl false ⟨#[],#[.agg #[.slice none 0 0,.slice none 0 0,.slice none 0 0,.int .i64 0],.string ⟨#[]⟩,.string ⟨#[]⟩],[]⟩ 8 (by kernel_rfl) (by kernel_rfl) (by kernel_rfl)
   (x:=([.agg [.nil,.nil,.nil,.lit (.int .i64 0)],.lit (.string []),.lit (.string [])],[],[])) (by kernel_rfl) rfl (by kernel_rfl)) ?_
 intro W base args ds gs before hval hW _ hk _
 exact Mf H enc W base args ds gs before hval hW (of_decide_eq_true hk)
theorem j1:(Ytfpoihibfajhlaa.Rows.expandSetsUptoRow.inPlace==Ytfpoihibfajhlaa.Try.pinned.checked.prog.inPlace 3)=true:=by kernel_rfl
theorem j2:(Ytfpoihibfajhlaa.Rows.expandSetsUptoRow.unfollowed==Ytfpoihibfajhlaa.Try.pinned.checked.prog.unfollowed 3)=true:=by kernel_rfl
theorem j3:(Ytfpoihibfajhlaa.Rows.expandSetsUptoRow.recurses==Ytfpoihibfajhlaa.Try.pinned.checked.prog.recurses 3)=true:=by kernel_rfl
theorem j4:(Ytfpoihibfajhlaa.Rows.expandSetsUptoRow.named==Ytfpoihibfajhlaa.Try.pinned.checked.prog.varsNamed 3)=true:=by kernel_rfl
theorem closed:joinedFacts Ytfpoihibfajhlaa.Try.pinned.checked.prog 3 Try.f3 (Ytfpoihibfajhlaa.Rows.OpenSpec.upto Ytfpoihibfajhlaa.Rows.expandSetsSpec).bare Ytfpoihibfajhlaa.Rows.expandSetsUptoRow=true:=by
 unfold joinedFacts
 rw [j1,j2,j3,j4]
 kernel_rfl
theorem proved:Ytfpoihibfajhlaa.Rows.ExpandSetsUptoSaid :=
 OpenClaim.holds_of_cond 3 Try.f3 rfl rfl rfl rfl rfl rfl rfl ⟨rfl,rfl,rfl,rfl,rfl⟩ rfl rfl rfl rfl rfl (by kernel_rfl) Try.func3 closed
  (of_decide_eq_true (by kernel_rfl)) (by unfold Func.isWrapper; first | (rw [if_pos (by decide +kernel)]; kernel_rfl) | (rw [if_neg (by decide +kernel)]; exact ⟨rfl,rfl⟩))
  (fun os started H enc _ F=>lifted os started H enc F)
end Go.Proofs.Ytfpoihibfajhlaa
