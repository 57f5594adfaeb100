/-
  Proved: touchstonelaw22.StoreOne returns true, and changes nothing. Conditions: what is read is of bulk at most 1048576.
-/
import Derived.Test.YtgloinighjdhlaaGreatRows
import Derived.WalkKit
import Derived.ProofKit
import Derived.Test.YtgloinighjdhlaaGreatAmKeep
import Derived.Test.YtgloinighjdhlaaGreatLink
import Derived.Test.YtgloinighjdhlaaGreatRNode
import Derived.Test.YtgloinighjdhlaaGreatLStU
set_option linter.all false
set_option linter.unusedVariables false
set_option linter.unusedSimpArgs false
set_option linter.unusedSectionVars false
set_option maxRecDepth 100000
namespace Go.Proofs.YtgloinighjdhlaaGreat
open Go.Proofs.YtgloinighjdhlaaGreat.Am Go.Proofs Go.ChangeShapes Go.WideShapes Go.ChangeAt Go.RowKit
theorem own:ownKnob Tryz.prog.godebug=none:=by kernel_rfl
theorem bI:laidOutB Tryz.prog=true:=by kernel_rfl
theorem Qj:Li Tryz.prog=true:=by kernel_rfl
theorem mixed:Tryz.prog.follows .mixedOrders=true:=by kernel_rfl
theorem ctx:Ctx Tryz.prog gt prog:=Ye Qj mixed fns_ok
theorem under4:Tryz.prog.underlying 4=some .bool:=by kernel_rfl
mutual
theorem F3 {H:Type}:∀ d:DataW H,YtgloinighjdhlaaGreat.Rows.uptoBulk d=blk d
 | .lit (.string bytes)=>by simp [YtgloinighjdhlaaGreat.Rows.uptoBulk,blk]
 | .lit (.bool _)=>by simp [YtgloinighjdhlaaGreat.Rows.uptoBulk,blk]
 | .lit (.int _ _)=>by simp [YtgloinighjdhlaaGreat.Rows.uptoBulk,blk]
 | .lit (.float _ _)=>by simp [YtgloinighjdhlaaGreat.Rows.uptoBulk,blk]
 | .lit .nil=>by simp [YtgloinighjdhlaaGreat.Rows.uptoBulk,blk]
 | .nil=>by simp [YtgloinighjdhlaaGreat.Rows.uptoBulk,blk]
 | .ptr d=>by simp only [YtgloinighjdhlaaGreat.Rows.uptoBulk,blk,F3 d]
 | .slice e s=>by simp only [YtgloinighjdhlaaGreat.Rows.uptoBulk,blk,Lx e,Lx s]
 | .agg l=>by simp only [YtgloinighjdhlaaGreat.Rows.uptoBulk,blk,Lx l]
 | .iface _ d=>by simp only [YtgloinighjdhlaaGreat.Rows.uptoBulk,blk,F3 d]
 | .map l=>by simp only [YtgloinighjdhlaaGreat.Rows.uptoBulk,blk,Qk l]
 | .held _=>by simp [YtgloinighjdhlaaGreat.Rows.uptoBulk,blk]
theorem Lx {H:Type}:∀ l:List (DataW H),YtgloinighjdhlaaGreat.Rows.uptoBulkAll l=blkL l
 | []=>by simp [YtgloinighjdhlaaGreat.Rows.uptoBulkAll,blkL]
 | d::l=>by simp only [YtgloinighjdhlaaGreat.Rows.uptoBulkAll,blkL,F3 d,Lx l]
theorem Qk {H:Type}:∀ l:List (Lit×DataW H),YtgloinighjdhlaaGreat.Rows.uptoBulkEntries l=blkM l
 | []=>by simp [YtgloinighjdhlaaGreat.Rows.uptoBulkEntries,blkM]
 | d::l=>by simp only [YtgloinighjdhlaaGreat.Rows.uptoBulkEntries,blkM,Ya d,Qk l]
theorem Ya {H:Type}:∀ l:Lit×DataW H,YtgloinighjdhlaaGreat.Rows.uptoBulkEntry l=blkE l
 | (.string b,d)=>by simp only [YtgloinighjdhlaaGreat.Rows.uptoBulkEntry,blkE,F3 d]
 | (.bool _,d)=>by simp only [YtgloinighjdhlaaGreat.Rows.uptoBulkEntry,blkE,F3 d]
 | (.int _ _,d)=>by simp only [YtgloinighjdhlaaGreat.Rows.uptoBulkEntry,blkE,F3 d]
 | (.float _ _,d)=>by simp only [YtgloinighjdhlaaGreat.Rows.uptoBulkEntry,blkE,F3 d]
 | (.nil,d)=>by simp only [YtgloinighjdhlaaGreat.Rows.uptoBulkEntry,blkE,F3 d]
end
theorem Ly (H:Type) (enc:TypeId×Value→H) (W:World) (base:Nat) (args:Array Value) (ds gs:List (DataW H)) (before:List MemPlace)
    (hval:∀ (j:Nat) t v,Tryz.f5.params[j]? = some t→args[j]? = some v→Value.okWide Tryz.prog W .any base t v)
    (hW:DataW.Whole enc Tryz.prog Tryz.f5.params.toList YtgloinighjdhlaaGreat.Rows.storeOneSpec.vars false W args.toList ds gs before) (hk:YtgloinighjdhlaaGreat.Rows.uptoBulkAll (ds++gs)≤1048576) :
    Calls Tryz.prog 5 args W fun e W'=>∃ v,e=.returned v∧YtgloinighjdhlaaGreat.Rows.storeOneSpec.post enc Tryz.prog Tryz.f5 false true false false W args v W':=by
 have hW':=hW
 obtain ⟨p,q,hA0,hV,rfl,hfz,hnd⟩:=hW
 have hA:DataW.TrodAll enc Tryz.prog W 0 (fun _=>true) true Tryz.f5.params.toList args.toList ds p:=hA0
 rw [show Tryz.f5.params.toList=[22,37,3,9] from by kernel_rfl] at hA
 rw [show Tryz.f5.params=#[22,37,3,9] from by kernel_rfl] at hval
 obtain ⟨v0,vs0,d0,ds0,p0,q0,hargs,rfl,rfl,h0,hA⟩:=trodAll_cons hA
 obtain ⟨v1,vs1,d1,ds1,p1,q1,rfl,rfl,rfl,h1,hA⟩:=trodAll_cons hA
 obtain ⟨v2,vs2,d2,ds2,p2,q2,rfl,rfl,rfl,h2,hA⟩:=trodAll_cons hA
 obtain ⟨v3,vs3,d3,ds3,p3,q3,rfl,rfl,rfl,h3,hA⟩:=trodAll_cons hA
 obtain ⟨rfl,rfl,rfl⟩:=trodAll_nil hA
 obtain rfl:args=#[v0,v1,v2,v3]:=by cases args; simp_all
 obtain ⟨rfl,rfl⟩:=trodVars_none hV
 have hk:YtgloinighjdhlaaGreat.Rows.uptoBulkAll [d0,d1,d2,d3]≤1048576:=hk
 simp only [YtgloinighjdhlaaGreat.Rows.uptoBulkAll,F3] at hk
 obtain ⟨m0,r0,t0,z0⟩:=Js Lz (t:=22) (by decide) (hval 0 22 v0 rfl rfl) h0
 obtain ⟨L0,e0,c0⟩:=R2 (by omega) t0
 rw [e0] at r0
 obtain ⟨m1,r1,t1,z1⟩:=Js Lz (t:=37) (by decide) (hval 1 37 v1 rfl rfl) h1
 obtain ⟨L1,e1,c1⟩:=T8 (by omega) t1
 rw [e1] at r1
 obtain ⟨m2,r2,t2,z2⟩:=Js Lz (t:=3) (by decide) (hval 2 3 v2 rfl rfl) h2
 obtain ⟨L2,e2,c2⟩:=Wh (by omega) t2
 rw [e2] at r2
 obtain ⟨m3,r3,t3,z3⟩:=Js Lz (t:=9) (by decide) (hval 3 9 v3 rfl rfl) h3
 obtain ⟨L3,e3,c3⟩:=Wi (by omega) t3
 rw [e3] at r3
 obtain ⟨n,hn⟩:=Bg.1 (Rs L0 L1 L2 L3 ⟨c0.1,by have:=c0.2.1; omega,by have:=c0.2.2; omega⟩ c1.1 (by have:=c1.2; have:=T1 L1; omega) c3 s0 ⟨rfl,rfl⟩)
 refine (Pc (SA Qj) ctx (vs:=#[v0,v1,v2,v3]) (fun i l h=>by cases h) (by simp only [VL]; exact ⟨_,_,rfl,r0,⟨_,_,rfl,r1,⟨_,_,rfl,r2,⟨_,_,rfl,r3,rfl⟩⟩⟩⟩) hn).mono fun e W' ⟨he,hk⟩=>?_
 exact ⟨_,he,W3 bI (by kernel_rfl) rfl (by kernel_rfl) under4 hW' rfl hk⟩
theorem lifted (os:Os) (started:os.Started) (H:Type) (enc:TypeId×Value→H) (F:Stop.Interp) :
    ReturnsInHanded {} Tryz.checked os 5 .any ((YtgloinighjdhlaaGreat.Rows.OpenSpec.upto YtgloinighjdhlaaGreat.Rows.storeOneSpec).pre6 enc Tryz.prog Tryz.f5 YtgloinighjdhlaaGreat.Rows.storeOneUptoRow.domain false) (((YtgloinighjdhlaaGreat.Rows.OpenSpec.upto YtgloinighjdhlaaGreat.Rows.storeOneSpec).at F).post enc Tryz.prog Tryz.f5 false true false false):=by
 refine returnsInHanded_of_cond (C:=Tryz.checked) (s:=YtgloinighjdhlaaGreat.Rows.OpenSpec.upto YtgloinighjdhlaaGreat.Rows.storeOneSpec) (k:=YtgloinighjdhlaaGreat.Rows.uptoSmall) rfl own started (by kernel_rfl) Tryz.func5
  (OpenSpec.witness (enc:=enc) (C:=Tryz.checked) (s:=YtgloinighjdhlaaGreat.Rows.OpenSpec.upto YtgloinighjdhlaaGreat.Rows.storeOneSpec) (k:=YtgloinighjdhlaaGreat.Rows.uptoSmall) rfl false ⟨#[],#[.slice none 0 0,.agg #[.int .u8 0,.string ⟨#[]⟩,.slice none 0 0,.slice none 0 0],.int .i64 0,.string ⟨#[]⟩],[]⟩ 8 (by kernel_rfl) (by kernel_rfl) (by kernel_rfl)
   (x:=([.nil,.agg [.lit (.int .u8 0),.lit (.string []),.nil,.nil],.lit (.int .i64 0),.lit (.string [])],[],[])) (by kernel_rfl) rfl (by kernel_rfl)) ?_
 intro W base args ds gs before hval hW _ hk _
 exact Ly H enc W base args ds gs before hval hW (of_decide_eq_true hk)
theorem j1:(YtgloinighjdhlaaGreat.Rows.storeOneUptoRow.inPlace==YtgloinighjdhlaaGreat.Tryz.pinned.checked.prog.inPlace 5)=true:=by kernel_rfl
theorem j2:(YtgloinighjdhlaaGreat.Rows.storeOneUptoRow.unfollowed==YtgloinighjdhlaaGreat.Tryz.pinned.checked.prog.unfollowed 5)=true:=by kernel_rfl
theorem j3:(YtgloinighjdhlaaGreat.Rows.storeOneUptoRow.recurses==YtgloinighjdhlaaGreat.Tryz.pinned.checked.prog.recurses 5)=true:=by kernel_rfl
theorem j4:(YtgloinighjdhlaaGreat.Rows.storeOneUptoRow.named==YtgloinighjdhlaaGreat.Tryz.pinned.checked.prog.varsNamed 5)=true:=by kernel_rfl
theorem Y5:joinedFacts YtgloinighjdhlaaGreat.Tryz.pinned.checked.prog 5 Tryz.f5 (YtgloinighjdhlaaGreat.Rows.OpenSpec.upto YtgloinighjdhlaaGreat.Rows.storeOneSpec).bare YtgloinighjdhlaaGreat.Rows.storeOneUptoRow=true:=by
 unfold joinedFacts
 rw [j1,j2,j3,j4]
 kernel_rfl
theorem proved:YtgloinighjdhlaaGreat.Rows.StoreOneUptoSaid :=
 OpenClaim.holds_of_cond 5 Tryz.f5 rfl rfl rfl rfl rfl rfl rfl ⟨rfl,rfl,rfl,rfl,rfl⟩ rfl rfl rfl rfl rfl (by kernel_rfl) Tryz.func5 Y5
  (of_decide_eq_true (by kernel_rfl)) (by unfold Func.isWrapper; first | (rw [if_pos (by decide +kernel)]; kernel_rfl) | (rw [if_neg (by decide +kernel)]; exact ⟨rfl,rfl⟩))
  (fun os started H enc _ F=>lifted os started H enc F)
end Go.Proofs.YtgloinighjdhlaaGreat
