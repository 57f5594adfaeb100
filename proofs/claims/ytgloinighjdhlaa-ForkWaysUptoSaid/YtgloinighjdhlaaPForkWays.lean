/-
  Proved: touchstonelaw24.ForkWays returns true, and changes nothing. Conditions: what is read is of bulk at most 1048576.
-/
import Derived.Test.YtgloinighjdhlaaRows
import Derived.WalkKit
import Derived.ProofKit
import Derived.Test.YtgloinighjdhlaaAmKeep
import Derived.Test.YtgloinighjdhlaaLink
import Derived.Test.YtgloinighjdhlaaRFacts
import Derived.Test.YtgloinighjdhlaaLFoE
set_option linter.all false
set_option linter.unusedVariables false
set_option linter.unusedSimpArgs false
set_option linter.unusedSectionVars false
set_option maxRecDepth 100000
namespace Go.Proofs.Ytgloinighjdhlaa
open Go.Proofs.Ytgloinighjdhlaa.Am Go.Proofs Go.ChangeShapes Go.WideShapes Go.ChangeAt Go.RowKit
theorem own:ownKnob Try.prog.godebug=none:=by kernel_rfl
theorem Yt:laidOutB Try.prog=true:=by kernel_rfl
theorem Je:Ko Try.prog=true:=by kernel_rfl
theorem mixed:Try.prog.follows .mixedOrders=true:=by kernel_rfl
theorem ctx1:Ctx Try.prog gt prog:=Sp Je mixed Co
theorem ctx:Ctx Try.prog gt Ay:=Sp Je mixed (Yc (Nb Je) ctx1)
theorem under4:Try.prog.underlying 4=some .bool:=by kernel_rfl
mutual
theorem FD {H:Type}:∀ d:DataW H,Ytgloinighjdhlaa.Rows.uptoBulk d=blk d
 | .lit (.string bytes)=>by simp [Ytgloinighjdhlaa.Rows.uptoBulk,blk]
 | .lit (.bool _)=>by simp [Ytgloinighjdhlaa.Rows.uptoBulk,blk]
 | .lit (.int _ _)=>by simp [Ytgloinighjdhlaa.Rows.uptoBulk,blk]
 | .lit (.float _ _)=>by simp [Ytgloinighjdhlaa.Rows.uptoBulk,blk]
 | .lit .nil=>by simp [Ytgloinighjdhlaa.Rows.uptoBulk,blk]
 | .nil=>by simp [Ytgloinighjdhlaa.Rows.uptoBulk,blk]
 | .ptr d=>by simp only [Ytgloinighjdhlaa.Rows.uptoBulk,blk,FD d]
 | .slice e s=>by simp only [Ytgloinighjdhlaa.Rows.uptoBulk,blk,Kx e,Kx s]
 | .agg l=>by simp only [Ytgloinighjdhlaa.Rows.uptoBulk,blk,Kx l]
 | .iface _ d=>by simp only [Ytgloinighjdhlaa.Rows.uptoBulk,blk,FD d]
 | .map l=>by simp only [Ytgloinighjdhlaa.Rows.uptoBulk,blk,PW l]
 | .held _=>by simp [Ytgloinighjdhlaa.Rows.uptoBulk,blk]
theorem Kx {H:Type}:∀ l:List (DataW H),Ytgloinighjdhlaa.Rows.uptoBulkAll l=blkL l
 | []=>by simp [Ytgloinighjdhlaa.Rows.uptoBulkAll,blkL]
 | d::l=>by simp only [Ytgloinighjdhlaa.Rows.uptoBulkAll,blkL,FD d,Kx l]
theorem PW {H:Type}:∀ l:List (Lit×DataW H),Ytgloinighjdhlaa.Rows.uptoBulkEntries l=blkM l
 | []=>by simp [Ytgloinighjdhlaa.Rows.uptoBulkEntries,blkM]
 | d::l=>by simp only [Ytgloinighjdhlaa.Rows.uptoBulkEntries,blkM,WW d,PW l]
theorem WW {H:Type}:∀ l:Lit×DataW H,Ytgloinighjdhlaa.Rows.uptoBulkEntry l=blkE l
 | (.string b,d)=>by simp only [Ytgloinighjdhlaa.Rows.uptoBulkEntry,blkE,FD d]
 | (.bool _,d)=>by simp only [Ytgloinighjdhlaa.Rows.uptoBulkEntry,blkE,FD d]
 | (.int _ _,d)=>by simp only [Ytgloinighjdhlaa.Rows.uptoBulkEntry,blkE,FD d]
 | (.float _ _,d)=>by simp only [Ytgloinighjdhlaa.Rows.uptoBulkEntry,blkE,FD d]
 | (.nil,d)=>by simp only [Ytgloinighjdhlaa.Rows.uptoBulkEntry,blkE,FD d]
end
theorem OG (H:Type) (enc:TypeId×Value→H) (W:World) (base:Nat) (args:Array Value) (ds gs:List (DataW H)) (before:List MemPlace)
    (hval:∀ (j:Nat) t v,Try.f3.params[j]? = some t→args[j]? = some v→Value.okWide Try.prog W .any base t v)
    (hW:DataW.Whole enc Try.prog Try.f3.params.toList Ytgloinighjdhlaa.Rows.forkWaysSpec.vars false W args.toList ds gs before) (hk:Ytgloinighjdhlaa.Rows.uptoBulkAll (ds++gs)≤1048576) :
    Calls Try.prog 3 args W fun e W'=>∃ v,e=.returned v∧Ytgloinighjdhlaa.Rows.forkWaysSpec.post enc Try.prog Try.f3 false true false false W args v W':=by
 have hW':=hW
 obtain ⟨p,q,hA0,hV,rfl,hfz,hnd⟩:=hW
 have hA:DataW.TrodAll enc Try.prog W 0 (fun _=>true) true Try.f3.params.toList args.toList ds p:=hA0
 rw [show Try.f3.params.toList=[22,3,4,4] from by kernel_rfl] at hA
 rw [show Try.f3.params=#[22,3,4,4] from by kernel_rfl] at hval
 obtain ⟨v0,vs0,d0,ds0,p0,q0,hargs,rfl,rfl,h0,hA⟩:=trodAll_cons hA
 obtain ⟨v1,vs1,d1,ds1,p1,q1,rfl,rfl,rfl,h1,hA⟩:=trodAll_cons hA
 obtain ⟨v2,vs2,d2,ds2,p2,q2,rfl,rfl,rfl,h2,hA⟩:=trodAll_cons hA
 obtain ⟨v3,vs3,d3,ds3,p3,q3,rfl,rfl,rfl,h3,hA⟩:=trodAll_cons hA
 obtain ⟨rfl,rfl,rfl⟩:=trodAll_nil hA
 obtain rfl:args=#[v0,v1,v2,v3]:=by cases args; simp_all
 obtain ⟨rfl,rfl⟩:=trodVars_none hV
 have hk:Ytgloinighjdhlaa.Rows.uptoBulkAll [d0,d1,d2,d3]≤1048576:=hk
 simp only [Ytgloinighjdhlaa.Rows.uptoBulkAll,FD] at hk
 obtain ⟨m0,r0,t0,z0⟩:=JP Ky (t:=22) (by decide) (hval 0 22 v0 rfl rfl) h0
 obtain ⟨L0,e0,c0⟩:=Qb (by omega) t0
 rw [e0] at r0
 obtain ⟨m1,r1,t1,z1⟩:=JP Ky (t:=3) (by decide) (hval 1 3 v1 rfl rfl) h1
 obtain ⟨L1,e1,c1⟩:=Ur (by omega) t1
 rw [e1] at r1
 obtain ⟨m2,r2,t2,z2⟩:=JP Ky (t:=4) (by decide) (hval 2 4 v2 rfl rfl) h2
 obtain ⟨L2,e2,c2⟩:=NN (by omega) t2
 rw [e2] at r2
 obtain ⟨m3,r3,t3,z3⟩:=JP Ky (t:=4) (by decide) (hval 3 4 v3 rfl rfl) h3
 obtain ⟨L3,e3,c3⟩:=NN (by omega) t3
 rw [e3] at r3
 obtain ⟨n,hn⟩:=Bh.1 (QU L0 L1 L2 L3 ⟨c0.1,by have:=c0.2.1; omega,by have:=c0.2.2; omega⟩ s0 ⟨rfl,rfl⟩)
 refine (OY (Nb Je) ctx (vs:=#[v0,v1,v2,v3]) (fun i l h=>by cases h) (by simp only [VL]; exact ⟨_,_,rfl,r0,⟨_,_,rfl,r1,⟨_,_,rfl,r2,⟨_,_,rfl,r3,rfl⟩⟩⟩⟩) hn).mono fun e W' ⟨he,hk⟩=>?_
 exact ⟨_,he,VB Yt (by kernel_rfl) rfl (by kernel_rfl) under4 hW' rfl hk⟩
theorem lifted (os:Os) (started:os.Started) (H:Type) (enc:TypeId×Value→H) (F:Stop.Interp) :
    ReturnsInHanded {} Try.checked os 3 .any ((Ytgloinighjdhlaa.Rows.OpenSpec.upto Ytgloinighjdhlaa.Rows.forkWaysSpec).pre6 enc Try.prog Try.f3 Ytgloinighjdhlaa.Rows.forkWaysUptoRow.domain false) (((Ytgloinighjdhlaa.Rows.OpenSpec.upto Ytgloinighjdhlaa.Rows.forkWaysSpec).at F).post enc Try.prog Try.f3 false true false false):=by
 refine returnsInHanded_of_cond (C:=Try.checked) (s:=Ytgloinighjdhlaa.Rows.OpenSpec.upto Ytgloinighjdhlaa.Rows.forkWaysSpec) (k:=Ytgloinighjdhlaa.Rows.uptoSmall) rfl own started (by kernel_rfl) Try.func3
  (OpenSpec.witness (enc:=enc) (C:=Try.checked) (s:=Ytgloinighjdhlaa.Rows.OpenSpec.upto Ytgloinighjdhlaa.Rows.forkWaysSpec) (k:=Ytgloinighjdhlaa.Rows.uptoSmall) rfl false ⟨#[],#[.slice none 0 0,.int .i64 0,.bool false,.bool false],[]⟩ 8 (by kernel_rfl) (by kernel_rfl) (by kernel_rfl)
   (x:=([.nil,.lit (.int .i64 0),.lit (.bool false),.lit (.bool false)],[],[])) (by kernel_rfl) rfl (by kernel_rfl)) ?_
 intro W base args ds gs before hval hW _ hk _
 exact OG H enc W base args ds gs before hval hW (of_decide_eq_true hk)
theorem j1:(Ytgloinighjdhlaa.Rows.forkWaysUptoRow.inPlace==Ytgloinighjdhlaa.Try.pinned.checked.prog.inPlace 3)=true:=by kernel_rfl
theorem j2:(Ytgloinighjdhlaa.Rows.forkWaysUptoRow.unfollowed==Ytgloinighjdhlaa.Try.pinned.checked.prog.unfollowed 3)=true:=by kernel_rfl
theorem j3:(Ytgloinighjdhlaa.Rows.forkWaysUptoRow.recurses==Ytgloinighjdhlaa.Try.pinned.checked.prog.recurses 3)=true:=by kernel_rfl
theorem j4:(Ytgloinighjdhlaa.Rows.forkWaysUptoRow.named==Ytgloinighjdhlaa.Try.pinned.checked.prog.varsNamed 3)=true:=by kernel_rfl
theorem Wz:joinedFacts Ytgloinighjdhlaa.Try.pinned.checked.prog 3 Try.f3 (Ytgloinighjdhlaa.Rows.OpenSpec.upto Ytgloinighjdhlaa.Rows.forkWaysSpec).bare Ytgloinighjdhlaa.Rows.forkWaysUptoRow=true:=by
 unfold joinedFacts
 rw [j1,j2,j3,j4]
 kernel_rfl
theorem proved:Ytgloinighjdhlaa.Rows.ForkWaysUptoSaid :=
 OpenClaim.holds_of_cond 3 Try.f3 rfl rfl rfl rfl rfl rfl rfl ⟨rfl,rfl,rfl,rfl,rfl⟩ rfl rfl rfl rfl rfl (by kernel_rfl) Try.func3 Wz
  (of_decide_eq_true (by kernel_rfl)) (by unfold Func.isWrapper; first | (rw [if_pos (by decide +kernel)]; kernel_rfl) | (rw [if_neg (by decide +kernel)]; exact ⟨rfl,rfl⟩))
  (fun os started H enc _ F=>lifted os started H enc F)
end Go.Proofs.Ytgloinighjdhlaa
