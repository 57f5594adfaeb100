/-
  Proved: touchstonelaw16.IlShows returns true, and changes nothing. Conditions: none but the tied tables.
-/
import Derived.Test.YtmnbfgfgjmmhfaaGreatDoorCards
import Derived.Test.YtmnbfgfgjmmhfaaGreatDoorTie
import Derived.WalkKit
import Derived.ProofKit
import Derived.OpenShut
import Derived.Deep.DeepHandedRow
import Derived.Lib.LaidTab
import Derived.Test.YtmnbfgfgjmmhfaaGreatDoorAmKeep
import Derived.Test.YtmnbfgfgjmmhfaaGreatDoorLink
import Derived.Test.YtmnbfgfgjmmhfaaGreatDoorRShows
import Derived.Test.YtmnbfgfgjmmhfaaGreatDoorAmSorted
set_option linter.all false
set_option linter.unusedVariables false
set_option linter.unusedSimpArgs false
set_option linter.unusedSectionVars false
set_option maxRecDepth 100000
namespace Go.Proofs.YtmnbfgfgjmmhfaaGreatDoor
open Go.Proofs.YtmnbfgfgjmmhfaaGreatDoor.Am Go.Proofs Go.Proofs.YtmnbfgfgjmmhfaaGreatDoor Go.ChangeShapes Go.WideShapes Go.ChangeAt Go.RowKit
theorem own:ownKnob Tryz.prog.godebug=none:=by kernel_rfl
theorem Ys:laidOutB Tryz.prog=true:=by kernel_rfl
theorem Po:Lo Tryz.prog=true:=by kernel_rfl
theorem mixed:Tryz.prog.follows .mixedOrders=true:=by kernel_rfl
theorem ctx:Ctx Tryz.prog gt prog:=Wi Po mixed fns_ok
theorem under4:Tryz.prog.underlying 4=some .bool:=by kernel_rfl
theorem gt_ok {W:World} (hL:laidMetH Tryz.prog Rows.ilShowsUptoRow.laid W):GT gt (g0 W) W:=by
 have hL:laidMet Tryz.prog Rows.ilShowsUptoRow.laid W:=hL
 intro i l h
 unfold gt at h
 split at h
 · cases h
   exact Y4 (Nq (name:="internal/strconv.uint64pow10") (k:=.u64) (zs:=zs_2) (g:=2) (t:=194) (e:=145) (n:=20) (by kernel_rfl) (by kernel_rfl) (by kernel_rfl) (by kernel_rfl) (by kernel_rfl) (by kernel_rfl) (by kernel_rfl) hL) (by kernel_rfl) (by decide)
 · cases h
mutual
theorem Ff {H:Type}:∀ d:DataW H,Rows.uptoBulk d=blk d
 | .lit (.string bytes)=>by simp [Rows.uptoBulk,blk]
 | .lit (.bool _)=>by simp [Rows.uptoBulk,blk]
 | .lit (.int _ _)=>by simp [Rows.uptoBulk,blk]
 | .lit (.float _ _)=>by simp [Rows.uptoBulk,blk]
 | .lit .nil=>by simp [Rows.uptoBulk,blk]
 | .nil=>by simp [Rows.uptoBulk,blk]
 | .ptr d=>by simp only [Rows.uptoBulk,blk,Ff d]
 | .slice e s=>by simp only [Rows.uptoBulk,blk,Lw e,Lw s]
 | .agg l=>by simp only [Rows.uptoBulk,blk,Lw l]
 | .iface _ d=>by simp only [Rows.uptoBulk,blk,Ff d]
 | .map l=>by simp only [Rows.uptoBulk,blk,Pp l]
 | .held _=>by simp [Rows.uptoBulk,blk]
theorem Lw {H:Type}:∀ l:List (DataW H),Rows.uptoBulkAll l=blkL l
 | []=>by simp [Rows.uptoBulkAll,blkL]
 | d::l=>by simp only [Rows.uptoBulkAll,blkL,Ff d,Lw l]
theorem Pp {H:Type}:∀ l:List (Lit×DataW H),Rows.uptoBulkEntries l=blkM l
 | []=>by simp [Rows.uptoBulkEntries,blkM]
 | d::l=>by simp only [Rows.uptoBulkEntries,blkM,WV d,Pp l]
theorem WV {H:Type}:∀ l:Lit×DataW H,Rows.uptoBulkEntry l=blkE l
 | (.string b,d)=>by simp only [Rows.uptoBulkEntry,blkE,Ff d]
 | (.bool _,d)=>by simp only [Rows.uptoBulkEntry,blkE,Ff d]
 | (.int _ _,d)=>by simp only [Rows.uptoBulkEntry,blkE,Ff d]
 | (.float _ _,d)=>by simp only [Rows.uptoBulkEntry,blkE,Ff d]
 | (.nil,d)=>by simp only [Rows.uptoBulkEntry,blkE,Ff d]
end
theorem Kl (H:Type) (enc:TypeId×Value→H) (W:World) (base:Nat) (args:Array Value) (ds gs:List (DataW H)) (before:List MemPlace)
    (hval:∀ (j:Nat) t v,Tryz.f6.params[j]? = some t→args[j]? = some v→Value.okWide Tryz.prog W .any base t v)
    (hW:DataW.Whole enc Tryz.prog Tryz.f6.params.toList Rows.ilShowsSpec.vars false W args.toList ds gs before) (hk:Rows.uptoBulkAll (ds++gs)≤1048576) (hL:laidMetH Tryz.prog Rows.ilShowsUptoRow.laid W) :
    Calls Tryz.prog 6 args W fun e W'=>∃ v,e=.returned v∧Rows.ilShowsSpec.post enc Tryz.prog Tryz.f6 false true false false W args v W':=by
 have hW':=hW
 obtain ⟨p,q,hA0,hV,rfl,hfz,hnd⟩:=hW
 have hA:DataW.TrodAll enc Tryz.prog W 0 (fun _=>true) true Tryz.f6.params.toList args.toList ds p:=hA0
 rw [show Tryz.f6.params.toList=[25,25] from by kernel_rfl] at hA
 rw [show Tryz.f6.params=#[25,25] from by kernel_rfl] at hval
 obtain ⟨v0,vs0,d0,ds0,p0,q0,hargs,rfl,rfl,h0,hA⟩:=trodAll_cons hA
 obtain ⟨v1,vs1,d1,ds1,p1,q1,rfl,rfl,rfl,h1,hA⟩:=trodAll_cons hA
 obtain ⟨rfl,rfl,rfl⟩:=trodAll_nil hA
 obtain rfl:args=#[v0,v1]:=by cases args; simp_all
 obtain ⟨rfl,rfl⟩:=trodVars_none hV
 have hk:Rows.uptoBulkAll [d0,d1]≤1048576:=hk
 simp only [Rows.uptoBulkAll,Ff] at hk
 obtain ⟨m0,r0,t0,z0⟩:=O6 Rz (t:=25) (by decide) (hval 0 25 v0 rfl rfl) h0
 obtain ⟨L0,e0,c0⟩:=Pq (by omega) t0
 rw [e0] at r0
 obtain ⟨m1,r1,t1,z1⟩:=O6 Rz (t:=25) (by decide) (hval 1 25 v1 rfl rfl) h1
 obtain ⟨L1,e1,c1⟩:=Pq (by omega) t1
 rw [e1] at r1
 obtain ⟨n,hn⟩:=Bg.1 (Qh L0 L1 c0 c1 s0 ⟨rfl,rfl⟩)
 refine (Oh (Qo Po) ctx (vs:=#[v0,v1]) (gt_ok hL) (by simp only [VL]; exact ⟨_,_,rfl,r0,⟨_,_,rfl,r1,rfl⟩⟩) hn).mono fun e W' ⟨he,hk⟩=>?_
 exact ⟨_,he,U9 Ys (by kernel_rfl) rfl (by kernel_rfl) under4 hW' rfl hk⟩
noncomputable def Mo (os:Os):World :=
 { World.holding Tryz.prog os ⟨#[],#[.agg #[.int .u8 0,.string ⟨#[]⟩,.slice none 0 0,.slice none 0 0],.agg #[.int .u8 0,.string ⟨#[]⟩,.slice none 0 0,.slice none 0 0]],[]⟩ with heap:=((((World.holding Tryz.prog os ⟨#[],#[.agg #[.int .u8 0,.string ⟨#[]⟩,.slice none 0 0,.slice none 0 0],.agg #[.int .u8 0,.string ⟨#[]⟩,.slice none 0 0,.slice none 0 0]],[]⟩).heap.modify 2 fun
    | .cells _ t frozen=>.cells (([1,10,100,1000,10000,100000,1000000,10000000,100000000,1000000000,10000000000,100000000000,1000000000000,10000000000000,100000000000000,1000000000000000,10000000000000000,100000000000000000,1000000000000000000,10000000000000000000]:List Int).map fun n=>Value.int .u64 n).toArray t frozen
    | o=>o).modify 3 fun
    | .cells _ t frozen=>.cells (([0,1,28,2,29,14,24,3,30,22,20,15,25,17,4,8,31,27,13,23,21,19,16,7,26,12,18,6,11,5,10,9]:List Int).map fun n=>Value.int .u8 n).toArray t frozen
    | o=>o).modify 4 fun
    | .cells _ t frozen=>.cells (([0,1,56,2,57,49,28,3,61,58,42,50,38,29,17,4,62,47,59,36,45,43,51,22,53,39,33,30,24,18,12,5,63,55,48,27,60,41,37,16,46,35,44,21,52,32,23,11,54,26,40,15,34,20,31,10,25,14,19,9,13,8,7,6]:List Int).map fun n=>Value.int .u8 n).toArray t frozen
    | o=>o) }
theorem WW (os:Os):laidMet Tryz.prog Rows.ilShowsUptoRow.laid ((Mo os).forCall (fun _ _=>0) ⟨#[],#[.agg #[.int .u8 0,.string ⟨#[]⟩,.slice none 0 0,.slice none 0 0],.agg #[.int .u8 0,.string ⟨#[]⟩,.slice none 0 0,.slice none 0 0]],[]⟩).memory :=
 laidMet_of_run' 8 (by kernel_rfl) (by kernel_rfl)
theorem reads (os:Os) {H:Type} (enc:TypeId×Value→H):∃ places,DataW.whole enc Tryz.prog ((Mo os).forCall (fun _ _=>0) ⟨#[],#[.agg #[.int .u8 0,.string ⟨#[]⟩,.slice none 0 0,.slice none 0 0],.agg #[.int .u8 0,.string ⟨#[]⟩,.slice none 0 0,.slice none 0 0]],[]⟩).memory Tryz.f6.params.toList Rows.ilShowsSpec.vars false (#[.agg #[.int .u8 0,.string ⟨#[]⟩,.slice none 0 0,.slice none 0 0],.agg #[.int .u8 0,.string ⟨#[]⟩,.slice none 0 0,.slice none 0 0]]:Array Value).toList 8=some ([.agg [.lit (.int .u8 0),.lit (.string []),.nil,.nil],.agg [.lit (.int .u8 0),.lit (.string []),.nil,.nil]],[],places) :=
 ⟨[],by kernel_rfl⟩
theorem lifted (os:Os) (started:os.Started) (H:Type) (enc:TypeId×Value→H) (F:Stop.Interp) :
    ReturnsInHanded {} Tryz.checked os 6 .any ((Rows.OpenSpec.upto Rows.ilShowsSpec).preRow enc Tryz.prog Tryz.f6 Rows.ilShowsUptoRow.domain false Rows.ilShowsUptoRow.laid) (((Rows.OpenSpec.upto Rows.ilShowsSpec).at F).post enc Tryz.prog Tryz.f6 false true false false):=by
 obtain ⟨places,hx⟩:=reads os enc
 refine returnsInHanded_of_row (C:=Tryz.checked) (s:=Rows.OpenSpec.upto Rows.ilShowsSpec) own started (by kernel_rfl) Tryz.func6
  (witness_row_at (enc:=enc) (C:=Tryz.checked) false (Mo os) #[.agg #[.int .u8 0,.string ⟨#[]⟩,.slice none 0 0,.slice none 0 0],.agg #[.int .u8 0,.string ⟨#[]⟩,.slice none 0 0,.slice none 0 0]] rfl (by kernel_rfl) (by kernel_rfl) (by kernel_rfl)
   (OpenSpec.preRow_of_cond 8 hx (by kernel_rfl) (fun k hk=>by cases hk; kernel_rfl) (by kernel_rfl) (WW os))) ?_
 intro W base args ds gs before hval hW _ hcond _ hL _ _
 exact Kl H enc W base args ds gs before hval hW (of_decide_eq_true (hcond _ rfl)) hL
theorem j1:(Rows.ilShowsUptoRow.inPlace==Tryz.pinned.checked.prog.inPlace 6)=true:=by kernel_rfl
theorem j2:(Rows.ilShowsUptoRow.unfollowed==Tryz.pinned.checked.prog.unfollowed 6)=true:=by kernel_rfl
theorem j3:(Rows.ilShowsUptoRow.recurses==Tryz.pinned.checked.prog.recurses 6)=true:=by kernel_rfl
theorem j4:(Rows.ilShowsUptoRow.named==Tryz.pinned.checked.prog.varsNamed 6)=true:=by kernel_rfl
theorem W6:joinedFacts Tryz.pinned.checked.prog 6 Tryz.f6 (Rows.OpenSpec.upto Rows.ilShowsSpec).bare Rows.ilShowsUptoRow=true:=by
 unfold joinedFacts
 rw [j1,j2,j3,j4]
 kernel_rfl
theorem said:Rows.IlShowsUptoSaid :=
 OpenClaim.holds_of_cond 6 Tryz.f6 rfl rfl rfl rfl rfl rfl rfl ⟨rfl,rfl,rfl,rfl,rfl⟩ rfl rfl rfl rfl rfl (by kernel_rfl) Tryz.func6 W6
  (of_decide_eq_true (by kernel_rfl)) (by unfold Func.isWrapper; first | (rw [if_pos (by decide +kernel)]; kernel_rfl) | (rw [if_neg (by decide +kernel)]; exact ⟨rfl,rfl⟩))
  (fun os started H enc _ F=>by rw [OpenClaim.pre_eq_preRow]; exact lifted os started H enc F)
theorem Yt (f:FuncId) (fn:Func) (hf:Tryz.pinned.checked.prog.funcNamed "touchstone/touchstonelaw16.IlShows"=some f) (hfn:Tryz.pinned.checked.prog.funcs[f]? = some fn) :
    true=Tryz.pinned.checked.prog.looks []∧∀ (j:Nat) t,fn.params[j]? = some t→Tryz.pinned.checked.prog.wantsStandIn t=false:=by
 obtain rfl:f=6:=Option.some.inj ((show Tryz.prog.funcNamed "touchstone/touchstonelaw16.IlShows"=some 6 by kernel_rfl).symm.trans hf) |>.symm
 obtain rfl:fn=Tryz.f6:=(Option.some.inj (Tryz.func6.symm.trans hfn)).symm
 refine ⟨by kernel_rfl,fun j t ht=>?_⟩
 rw [show Tryz.f6.params=#[25,25] from by kernel_rfl] at ht
 rcases j with _ | _ | j
 · obtain rfl:=Option.some.inj (show some 25=some t from ht)
   kernel_rfl
 · obtain rfl:=Option.some.inj (show some 25=some t from ht)
   kernel_rfl
 · simp at ht
theorem wfa1:Rows.ilShowsUptoRow.wfByText (Rows.OpenSpec.upto Rows.ilShowsSpec)=true:=by kernel_rfl
theorem wfa2:Tryz.pinned.checked.prog.mainIs=some (true, "ee3b630d6a0f46aa668b54ecbfe8cdcd3764d28978ecae32219fafa44f2d7d7a".toList):=by kernel_rfl
theorem wfa3:false=Rows.ilShowsUptoRow.goesBy Tryz.pinned.checked.prog:=by kernel_rfl
theorem proved:Rows.IlShowsUptoCardSaid :=
 Claim7.holds_tied_plain_at .later [] _ _ _ _ said (fun _ h=>by cases h) wfa1 (fun _ h=>by cases h) ilShowsUpto_row_tie rfl ⟨rfl,rfl⟩ wfa2 rfl Yt wfa3
end Go.Proofs.YtmnbfgfgjmmhfaaGreatDoor
