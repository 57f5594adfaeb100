/-
  Proved: touchstonelaw24.ForkOne returns true, and changes nothing. Conditions: what is read is of bulk at most 1048576.
-/
import Derived.Test.YtgloinighjdhlaaGreatRows
import Derived.WalkKit
import Derived.ProofKit
import Derived.Test.YtgloinighjdhlaaGreatAmKeep
import Derived.Test.YtgloinighjdhlaaGreatLink
import Derived.Test.YtgloinighjdhlaaGreatRNode
import Derived.Test.YtgloinighjdhlaaGreatLFoE
set_option linter.all false
set_option linter.unusedVariables false
set_option linter.unusedSimpArgs false
set_option linter.unusedSectionVars false
set_option maxRecDepth 100000
namespace Go.Proofs.YtgloinighjdhlaaGreat
open Go.Proofs.YtgloinighjdhlaaGreat.Am Go.Proofs Go.ChangeShapes Go.WideShapes Go.ChangeAt Go.RowKit
theorem own:ownKnob Tryz.prog.godebug=none:=by kernel_rfl
theorem cY:laidOutB Tryz.prog=true:=by kernel_rfl
theorem Ke:L6 Tryz.prog=true:=by kernel_rfl
theorem mixed:Tryz.prog.follows .mixedOrders=true:=by kernel_rfl
theorem ctx1:Ctx Tryz.prog gt prog:=VA Ke mixed Dn
theorem ctx:Ctx Tryz.prog gt Aq:=VA Ke mixed (cG (O4 Ke) ctx1)
theorem under4:Tryz.prog.underlying 4=some .bool:=by kernel_rfl
mutual
theorem GA {H:Type}:∀ d:DataW H,YtgloinighjdhlaaGreat.Rows.uptoBulk d=blk d
 | .lit (.string bytes)=>by simp [YtgloinighjdhlaaGreat.Rows.uptoBulk,blk]
 | .lit (.bool _)=>by simp [YtgloinighjdhlaaGreat.Rows.uptoBulk,blk]
 | .lit (.int _ _)=>by simp [YtgloinighjdhlaaGreat.Rows.uptoBulk,blk]
 | .lit (.float _ _)=>by simp [YtgloinighjdhlaaGreat.Rows.uptoBulk,blk]
 | .lit .nil=>by simp [YtgloinighjdhlaaGreat.Rows.uptoBulk,blk]
 | .nil=>by simp [YtgloinighjdhlaaGreat.Rows.uptoBulk,blk]
 | .ptr d=>by simp only [YtgloinighjdhlaaGreat.Rows.uptoBulk,blk,GA d]
 | .slice e s=>by simp only [YtgloinighjdhlaaGreat.Rows.uptoBulk,blk,MJ e,MJ s]
 | .agg l=>by simp only [YtgloinighjdhlaaGreat.Rows.uptoBulk,blk,MJ l]
 | .iface _ d=>by simp only [YtgloinighjdhlaaGreat.Rows.uptoBulk,blk,GA d]
 | .map l=>by simp only [YtgloinighjdhlaaGreat.Rows.uptoBulk,blk,RX l]
 | .held _=>by simp [YtgloinighjdhlaaGreat.Rows.uptoBulk,blk]
theorem MJ {H:Type}:∀ l:List (DataW H),YtgloinighjdhlaaGreat.Rows.uptoBulkAll l=blkL l
 | []=>by simp [YtgloinighjdhlaaGreat.Rows.uptoBulkAll,blkL]
 | d::l=>by simp only [YtgloinighjdhlaaGreat.Rows.uptoBulkAll,blkL,GA d,MJ l]
theorem RX {H:Type}:∀ l:List (Lit×DataW H),YtgloinighjdhlaaGreat.Rows.uptoBulkEntries l=blkM l
 | []=>by simp [YtgloinighjdhlaaGreat.Rows.uptoBulkEntries,blkM]
 | d::l=>by simp only [YtgloinighjdhlaaGreat.Rows.uptoBulkEntries,blkM,ZT d,RX l]
theorem ZT {H:Type}:∀ l:Lit×DataW H,YtgloinighjdhlaaGreat.Rows.uptoBulkEntry l=blkE l
 | (.string b,d)=>by simp only [YtgloinighjdhlaaGreat.Rows.uptoBulkEntry,blkE,GA d]
 | (.bool _,d)=>by simp only [YtgloinighjdhlaaGreat.Rows.uptoBulkEntry,blkE,GA d]
 | (.int _ _,d)=>by simp only [YtgloinighjdhlaaGreat.Rows.uptoBulkEntry,blkE,GA d]
 | (.float _ _,d)=>by simp only [YtgloinighjdhlaaGreat.Rows.uptoBulkEntry,blkE,GA d]
 | (.nil,d)=>by simp only [YtgloinighjdhlaaGreat.Rows.uptoBulkEntry,blkE,GA d]
end
theorem MK (H:Type) (enc:TypeId×Value→H) (W:World) (base:Nat) (args:Array Value) (ds gs:List (DataW H)) (before:List MemPlace)
    (hval:∀ (j:Nat) t v,Tryz.f4.params[j]? = some t→args[j]? = some v→Value.okWide Tryz.prog W .any base t v)
    (hW:DataW.Whole enc Tryz.prog Tryz.f4.params.toList YtgloinighjdhlaaGreat.Rows.forkOneSpec.vars false W args.toList ds gs before) (hk:YtgloinighjdhlaaGreat.Rows.uptoBulkAll (ds++gs)≤1048576) :
    Calls Tryz.prog 4 args W fun e W'=>∃ v,e=.returned v∧YtgloinighjdhlaaGreat.Rows.forkOneSpec.post enc Tryz.prog Tryz.f4 false true false false W args v W':=by
 have hW':=hW
 obtain ⟨p,q,hA0,hV,rfl,hfz,hnd⟩:=hW
 have hA:DataW.TrodAll enc Tryz.prog W 0 (fun _=>true) true Tryz.f4.params.toList args.toList ds p:=hA0
 rw [show Tryz.f4.params.toList=[22,37,3,4,4] from by kernel_rfl] at hA
 rw [show Tryz.f4.params=#[22,37,3,4,4] from by kernel_rfl] at hval
 obtain ⟨v0,vs0,d0,ds0,p0,q0,hargs,rfl,rfl,h0,hA⟩:=trodAll_cons hA
 obtain ⟨v1,vs1,d1,ds1,p1,q1,rfl,rfl,rfl,h1,hA⟩:=trodAll_cons hA
 obtain ⟨v2,vs2,d2,ds2,p2,q2,rfl,rfl,rfl,h2,hA⟩:=trodAll_cons hA
 obtain ⟨v3,vs3,d3,ds3,p3,q3,rfl,rfl,rfl,h3,hA⟩:=trodAll_cons hA
 obtain ⟨v4,vs4,d4,ds4,p4,q4,rfl,rfl,rfl,h4,hA⟩:=trodAll_cons hA
 obtain ⟨rfl,rfl,rfl⟩:=trodAll_nil hA
 obtain rfl:args=#[v0,v1,v2,v3,v4]:=by cases args; simp_all
 obtain ⟨rfl,rfl⟩:=trodVars_none hV
 have hk:YtgloinighjdhlaaGreat.Rows.uptoBulkAll [d0,d1,d2,d3,d4]≤1048576:=hk
 simp only [YtgloinighjdhlaaGreat.Rows.uptoBulkAll,GA] at hk
 obtain ⟨m0,r0,t0,z0⟩:=Ie Kf (t:=22) (by decide) (hval 0 22 v0 rfl rfl) h0
 obtain ⟨L0,e0,c0⟩:=Sh (by omega) t0
 rw [e0] at r0
 obtain ⟨m1,r1,t1,z1⟩:=Ie Kf (t:=37) (by decide) (hval 1 37 v1 rfl rfl) h1
 obtain ⟨L1,e1,c1⟩:=Uj (by omega) t1
 rw [e1] at r1
 obtain ⟨m2,r2,t2,z2⟩:=Ie Kf (t:=3) (by decide) (hval 2 3 v2 rfl rfl) h2
 obtain ⟨L2,e2,c2⟩:=XZ (by omega) t2
 rw [e2] at r2
 obtain ⟨m3,r3,t3,z3⟩:=Ie Kf (t:=4) (by decide) (hval 3 4 v3 rfl rfl) h3
 obtain ⟨L3,e3,c3⟩:=Om (by omega) t3
 rw [e3] at r3
 obtain ⟨m4,r4,t4,z4⟩:=Ie Kf (t:=4) (by decide) (hval 4 4 v4 rfl rfl) h4
 obtain ⟨L4,e4,c4⟩:=Om (by omega) t4
 rw [e4] at r4
 obtain ⟨n,hn⟩:=Be.1 (US L0 L1 L2 L3 L4 ⟨c0.1,by have:=c0.2.1; omega,by have:=c0.2.2; omega⟩ c1.1 (by have:=c1.2; have:=Ud L1; omega) s0 ⟨rfl,rfl⟩)
 refine (QJ (O4 Ke) ctx (vs:=#[v0,v1,v2,v3,v4]) (fun i l h=>by cases h) (by simp only [VL]; exact ⟨_,_,rfl,r0,⟨_,_,rfl,r1,⟨_,_,rfl,r2,⟨_,_,rfl,r3,⟨_,_,rfl,r4,rfl⟩⟩⟩⟩⟩) hn).mono fun e W' ⟨he,hk⟩=>?_
 exact ⟨_,he,Xx cY (by kernel_rfl) rfl (by kernel_rfl) under4 hW' rfl hk⟩
theorem lifted (os:Os) (started:os.Started) (H:Type) (enc:TypeId×Value→H) (F:Stop.Interp) :
    ReturnsInHanded {} Tryz.checked os 4 .any ((YtgloinighjdhlaaGreat.Rows.OpenSpec.upto YtgloinighjdhlaaGreat.Rows.forkOneSpec).pre6 enc Tryz.prog Tryz.f4 YtgloinighjdhlaaGreat.Rows.forkOneUptoRow.domain false) (((YtgloinighjdhlaaGreat.Rows.OpenSpec.upto YtgloinighjdhlaaGreat.Rows.forkOneSpec).at F).post enc Tryz.prog Tryz.f4 false true false false):=by
 refine returnsInHanded_of_cond (C:=Tryz.checked) (s:=YtgloinighjdhlaaGreat.Rows.OpenSpec.upto YtgloinighjdhlaaGreat.Rows.forkOneSpec) (k:=YtgloinighjdhlaaGreat.Rows.uptoSmall) rfl own started (by kernel_rfl) Tryz.func4
  (OpenSpec.witness (enc:=enc) (C:=Tryz.checked) (s:=YtgloinighjdhlaaGreat.Rows.OpenSpec.upto YtgloinighjdhlaaGreat.Rows.forkOneSpec) (k:=YtgloinighjdhlaaGreat.Rows.uptoSmall) rfl false ⟨#[],#[.slice none 0 0,.agg #[.int .u8 0,.string ⟨#[]⟩,.slice none 0 0,.slice none 0 0],.int .i64 0,.bool false,.bool false],[]⟩ 8 (by kernel_rfl) (by kernel_rfl) (by kernel_rfl)
   (x:=([.nil,.agg [.lit (.int .u8 0),.lit (.string []),.nil,.nil],.lit (.int .i64 0),.lit (.bool false),.lit (.bool false)],[],[])) (by kernel_rfl) rfl (by kernel_rfl)) ?_
 intro W base args ds gs before hval hW _ hk _
 exact MK H enc W base args ds gs before hval hW (of_decide_eq_true hk)
theorem j1:(YtgloinighjdhlaaGreat.Rows.forkOneUptoRow.inPlace==YtgloinighjdhlaaGreat.Tryz.pinned.checked.prog.inPlace 4)=true:=by kernel_rfl
theorem j2:(YtgloinighjdhlaaGreat.Rows.forkOneUptoRow.unfollowed==YtgloinighjdhlaaGreat.Tryz.pinned.checked.prog.unfollowed 4)=true:=by kernel_rfl
theorem j3:(YtgloinighjdhlaaGreat.Rows.forkOneUptoRow.recurses==YtgloinighjdhlaaGreat.Tryz.pinned.checked.prog.recurses 4)=true:=by kernel_rfl
theorem j4:(YtgloinighjdhlaaGreat.Rows.forkOneUptoRow.named==YtgloinighjdhlaaGreat.Tryz.pinned.checked.prog.varsNamed 4)=true:=by kernel_rfl
theorem Zy:joinedFacts YtgloinighjdhlaaGreat.Tryz.pinned.checked.prog 4 Tryz.f4 (YtgloinighjdhlaaGreat.Rows.OpenSpec.upto YtgloinighjdhlaaGreat.Rows.forkOneSpec).bare YtgloinighjdhlaaGreat.Rows.forkOneUptoRow=true:=by
 unfold joinedFacts
 rw [j1,j2,j3,j4]
 kernel_rfl
theorem proved:YtgloinighjdhlaaGreat.Rows.ForkOneUptoSaid :=
 OpenClaim.holds_of_cond 4 Tryz.f4 rfl rfl rfl rfl rfl rfl rfl ⟨rfl,rfl,rfl,rfl,rfl⟩ rfl rfl rfl rfl rfl (by kernel_rfl) Tryz.func4 Zy
  (of_decide_eq_true (by kernel_rfl)) (by unfold Func.isWrapper; first | (rw [if_pos (by decide +kernel)]; kernel_rfl) | (rw [if_neg (by decide +kernel)]; exact ⟨rfl,rfl⟩))
  (fun os started H enc _ F=>lifted os started H enc F)
end Go.Proofs.YtgloinighjdhlaaGreat
