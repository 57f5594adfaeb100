/-
  Variables, parts and fields as plain lists.
-/
import Derived.Test.YtfpoihibfajhlaaAmKeep
import Derived.Test.YtfpoihibfajhlaaAmRg
import Derived.Test.YtfpoihibfajhlaaFns
set_option linter.all false
set_option linter.unusedVariables false
set_option linter.unusedSimpArgs false
set_option linter.unusedSectionVars false
set_option maxRecDepth 100000
namespace Go.Proofs.Ytfpoihibfajhlaa
open Go.Proofs.Ytfpoihibfajhlaa.Am
abbrev tx (L:List (List Nat)):AV:=.ws false 1 (L.map .s)
def idxL (l:List Nat) (L:List (List Nat)):Int:=match L.findIdx? (·==l) with
 | some i=>(i:Int)
 | none => -1
section value
variable (it:Int→List Nat)
structure VV where
 names:List (List Nat)
 values:List (List Nat)
 args:List (List Nat)
 status:Int
structure VV.Ok (v:VV):Prop where
 n:v.names.length < 2^63
 w:v.values.length < 2^63
 a:v.args.length < 2^63
 s0 : -9223372036854775808≤v.status
 s1:v.status≤9223372036854775807
abbrev VV.cells (v:VV):List AV:=[tx v.names,tx v.values,tx v.args,.i .i64 v.status]
abbrev VV.av (v:VV):AV:=.agg v.cells
structure PP where
 var:Bool
 text:List Nat
 quoted:Bool
abbrev PP.cells (p:PP):List AV:=[.b p.var,.s p.text,.b p.quoted]
end value
end Go.Proofs.Ytfpoihibfajhlaa

namespace Go.Proofs.Ytfpoihibfajhlaa
open Go.Proofs.Ytfpoihibfajhlaa.Am
theorem Aq (k:IntKind) (i:Nat):Bo (.i k (i:Int))=some i:=by simp [Bo]
theorem Md {L:List (List Nat)} {i:Nat} (h:i < L.length):(L.map AV.s)[i]? = some (.s L[i]):=by simp [h]
theorem J2 (s:St) (v:AV):ldA s false 1 (.ep [v] 0 .shut)=some v:=rfl
theorem FE (l:List Nat):(AV.s l).cells=[.s l]:=rfl
theorem Gy {i:Nat} (h:i < 2^63):IntKind.i64.wrap (i:Int)=i:=by
 have e1:((i:Int) % 2^64)=i:=by omega
 simp only [IntKind.wrap,IntKind.signed,IntKind.bits,e1]
 rw [if_neg]
 simp; omega
theorem Bh {i:Nat} (h:i+1 < 2^63):IntKind.i64.wrap ((i:Int)+1)=((i+1:Nat):Int):=by
 rw [← Gy h]; simp
theorem Ag (n:Nat):Int.ofNat n=(n:Int):=rfl
theorem J3 {l:List Nat} {L:List (List Nat)} {i:Nat} (h:i < L.length) (he:L[i]=l) (hn:∀ (j:Nat) (hj:j < i),L[j]'(by omega)≠l):idxL l L=i:=by
 have:L.findIdx? (·==l)=some i:=by
  rw [List.findIdx?_eq_some_iff_getElem]
  exact ⟨h,by simpa using he,fun j hj=>by simpa using hn j hj⟩
 simp [idxL,this]
theorem LC {l:List Nat} {L:List (List Nat)} (hn:∀ (j:Nat) (hj:j < L.length),L[j]≠l):idxL l L = -1:=by
 have:L.findIdx? (·==l)=none:=by
  rw [List.findIdx?_eq_none_iff]
  intro x hx
  obtain ⟨j,hj,rfl⟩:=List.mem_iff_getElem.1 hx
  simpa using hn j hj
 simp [idxL,this]
theorem Pl (L:List (List Nat)) (l:List Nat) (hL:L.length < 2^63) (s:St):(lim prog).call Az [tx L,.s l] s=some (.i .i64 (idxL l L),s):=by
 refine fn_W CU rfl rfl ?_
 simp only [AX,BR,FV,FU,Ab,FW,DM,DN,FT,Aa,DP,CA,AK,CI,Fa,Fb,Fc,Fd,Bool.not_true,Bool.not_false,DR,CH,BG,CB,CD,KS_n,KS_x,KS_r,KB_n,KB_x,KB_r,FR,FS,FX,DQ,KF_n,KF_r,KG_n,KG_r,KL_n,KL_x,KL_r,CF,Bj,evOp,evX,X.ev,optX,BU,Bi,Bk,FY,FZ,Nat.reduceBEq,Nat.reduceAdd,Nat.reduceLT,Nat.reduceLeDiff,Nat.reduceEqDiff,reduceIte,if_true,if_false,C8,C9,DA,DB,DC,DD,DE,DF,DG,DH,DI,DJ,Am.unOp,ret1,pubL,pub,pubA,B7,wkZ,wk,BE,Cc,Af,BF,AOp.cls,Nat.beq_eq,Bool.or_eq_true,decide_true,decide_false,beq_self_eq_true,Bool.true_or,Bool.or_true,true_and,and_true,lenA,eqv,eqB,eqP,scal,AQ,List.getElem?_cons_zero,List.getElem?_cons_succ,DK,DL,Dm,updM,FO,FP,FQ,Int.reduceEq,ret1,Ch,B9,reduceCtorEq,Bool.xor_true,Bool.xor_false,Bool.false_eq_true,List.all_cons,List.all_nil,noTok,Bool.and_self,Bool.and_true,Bool.true_and,List.length_map,Ag]
 refine FM (fun n e s1=>s1=s.enter∧e.get 0=tx L∧e.get 1=.s l∧e.get 7=.i .i64 L.length∧∃ i:Nat,i+n=L.length∧e.get 8=.i .i64 i∧∀ (j:Nat) (hj:j < i) (hL:j < L.length),L[j]≠l) ?_ L.length _ _ ?_
 · rintro n e s1 ⟨rfl,h0,h1,h7,i,hi,h8,hn⟩
   simp only [BR,FV,FU,Ab,FW,DM,DN,FT,Aa,DP,CA,AK,CI,Fa,Fb,Fc,Fd,Bool.not_true,Bool.not_false,DR,CH,BG,CB,CD,KS_n,KS_x,KS_r,KB_n,KB_x,KB_r,FR,FS,FX,DQ,KF_n,KF_r,KG_n,KG_r,KL_n,KL_x,KL_r,CF,Bj,evOp,evX,X.ev,optX,BU,Bi,Bk,FY,FZ,Nat.reduceBEq,Nat.reduceAdd,Nat.reduceLT,Nat.reduceLeDiff,Nat.reduceEqDiff,reduceIte,if_true,if_false,C8,C9,DA,DB,DC,DD,DE,DF,DG,DH,DI,DJ,Am.unOp,ret1,pubL,pub,pubA,B7,wkZ,wk,BE,Cc,Af,BF,AOp.cls,Nat.beq_eq,Bool.or_eq_true,decide_true,decide_false,beq_self_eq_true,Bool.true_or,Bool.or_true,true_and,and_true,lenA,eqv,eqB,eqP,scal,AQ,List.getElem?_cons_zero,List.getElem?_cons_succ,DK,DL,Dm,updM,FO,FP,FQ,Int.reduceEq,ret1,Ch,B9,reduceCtorEq,Bool.xor_true,Bool.xor_false,Bool.false_eq_true,List.all_cons,List.all_nil,noTok,Bool.and_self,Bool.and_true,Bool.true_and,h0,h1,h7,h8,List.length_map,Ag]
   refine MU (fun hlt=>?_) (fun hge=>?_)
   · have hlt:i < L.length:=by omega
     simp only [BR,FV,FU,Ab,FW,DM,DN,FT,Aa,DP,CA,AK,CI,Fa,Fb,Fc,Fd,Bool.not_true,Bool.not_false,DR,CH,BG,CB,CD,KS_n,KS_x,KS_r,KB_n,KB_x,KB_r,FR,FS,FX,DQ,KF_n,KF_r,KG_n,KG_r,KL_n,KL_x,KL_r,CF,Bj,evOp,evX,X.ev,optX,BU,Bi,Bk,FY,FZ,Nat.reduceBEq,Nat.reduceAdd,Nat.reduceLT,Nat.reduceLeDiff,Nat.reduceEqDiff,reduceIte,if_true,if_false,C8,C9,DA,DB,DC,DD,DE,DF,DG,DH,DI,DJ,Am.unOp,ret1,pubL,pub,pubA,B7,wkZ,wk,BE,Cc,Af,BF,AOp.cls,Nat.beq_eq,Bool.or_eq_true,decide_true,decide_false,beq_self_eq_true,Bool.true_or,Bool.or_true,true_and,and_true,lenA,eqv,eqB,eqP,scal,AQ,List.getElem?_cons_zero,List.getElem?_cons_succ,DK,DL,Dm,updM,FO,FP,FQ,Int.reduceEq,ret1,Ch,B9,reduceCtorEq,Bool.xor_true,Bool.xor_false,Bool.false_eq_true,List.all_cons,List.all_nil,noTok,Bool.and_self,Bool.and_true,Bool.true_and,h0,h1,h7,h8,Aq,Md hlt,FE,J2,Bh (show i+1 < 2^63 by omega)]
     refine MU (fun h5=>?_) (fun h5=>?_)
     · exact AW (Over.enter s) rfl (by simp only [Af,wkZ,wk,J3 hlt h5.symm (fun j hj=>hn j hj (by omega))])
     · refine ⟨n - 1,by omega,i+1,by omega,rfl,fun j hj hjL=>?_⟩
       by_cases hji:j=i
       · subst hji; exact fun hh=>h5 hh.symm
       · exact hn j (by omega) hjL
   · exact AW (Over.enter s) rfl (by simp only [Af,wkZ,wk,LC (fun j hj=>hn j (by omega) hj)])
 · simp only [BR,FV,FU,Ab,FW,DM,DN,FT,Aa,DP,CA,AK,CI,Fa,Fb,Fc,Fd,Bool.not_true,Bool.not_false,DR,CH,BG,CB,CD,KS_n,KS_x,KS_r,KB_n,KB_x,KB_r,FR,FS,FX,DQ,KF_n,KF_r,KG_n,KG_r,KL_n,KL_x,KL_r,CF,Bj,evOp,evX,X.ev,optX,BU,Bi,Bk,FY,FZ,Nat.reduceBEq,Nat.reduceAdd,Nat.reduceLT,Nat.reduceLeDiff,Nat.reduceEqDiff,reduceIte,if_true,if_false,C8,C9,DA,DB,DC,DD,DE,DF,DG,DH,DI,DJ,Am.unOp,ret1,pubL,pub,pubA,B7,wkZ,wk,BE,Cc,Af,BF,AOp.cls,Nat.beq_eq,Bool.or_eq_true,decide_true,decide_false,beq_self_eq_true,Bool.true_or,Bool.or_true,true_and,and_true,lenA,eqv,eqB,eqP,scal,AQ,List.getElem?_cons_zero,List.getElem?_cons_succ,DK,DL,Dm,updM,FO,FP,FQ,Int.reduceEq,ret1,Ch,B9,reduceCtorEq,Bool.xor_true,Bool.xor_false,Bool.false_eq_true,List.all_cons,List.all_nil,noTok,Bool.and_self,Bool.and_true,Bool.true_and]
   exact ⟨0,by omega,rfl,fun j hj=>by omega⟩
section value
variable (it:Int→List Nat)
theorem Gz (l:List AV):(AV.agg l).cells=l:=rfl
theorem len4 (a b c d:AV):[a,b,c,d].length=4:=rfl
theorem ld4 {s:St} {T:Nat} {a b c d:AV}:ldA (s.new (.cells T [a,b,c,d])) false 1 (.p s.nb 0)=some a∧ldA (s.new (.cells T [a,b,c,d])) false 1 (.p s.nb 1)=some b ∧
    ldA (s.new (.cells T [a,b,c,d])) false 1 (.p s.nb 2)=some c∧ldA (s.new (.cells T [a,b,c,d])) false 1 (.p s.nb 3)=some d:=by
 simp [ldA,St.cells?,AQ,cut,scal]
theorem ld4_0 (s:St) (T:Nat) (a b c d:AV):ldA (s.new (.cells T [a,b,c,d])) false 1 (.p s.nb 0)=some a:=ld4.1
theorem ld4_1 (s:St) (T:Nat) (a b c d:AV):ldA (s.new (.cells T [a,b,c,d])) false 1 (.p s.nb 1)=some b:=ld4.2.1
theorem ld4_2 (s:St) (T:Nat) (a b c d:AV):ldA (s.new (.cells T [a,b,c,d])) false 1 (.p s.nb 2)=some c:=ld4.2.2.1
end value
end Go.Proofs.Ytfpoihibfajhlaa

namespace Go.Proofs.Ytfpoihibfajhlaa
open Go.Proofs.Ytfpoihibfajhlaa.Am
/-! ### A byte in a text -/
theorem ext0 (s:St) (l:List Nat) (c:Nat) (hc:c < 256):extA s 0 [.s l,.i .u8 (c:Int)]=some (.i .i64 (idxB c 0 l),s):=by
 have h:((IntKind.u8=IntKind.u8)∧(0:Int)≤(c:Int)∧(c:Int) < 256):=⟨rfl,by omega,by omega⟩
 show (if _ then _ else _)=_
 rw [if_pos h]
 simp
theorem G0 (l:List Nat) (c:Nat) (hc:c < 256) (s:St):(lim prog).call Al [.s l,.i .u8 (c:Int)] s=some (.i .i64 (idxB c 0 l),s):=by
 refine fn_W C5 rfl rfl ?_
 simp only [Ao,go_sem,Ab,AK,AO,AP,Aa,KB_n,KB_x,Nat.reduceBEq,Nat.reduceAdd,Nat.reduceLT,Nat.reduceLeDiff,Nat.reduceEqDiff,reduceIte,Int.reduceEq,reduceCtorEq,ext0 _ l c hc]
 exact AW (Over.enter s) rfl rfl
theorem Is:Bo (.i .i64 0)=some 0:=rfl
theorem OV (l:List Nat) (c:Nat) (hc:c < 256) (s:St):(lim prog).call BW [.s l,.s [c]] s=some (.i .i64 (idxB c 0 l),s):=by
 refine fn_W Dt rfl rfl ?_
 have h1:(((List.length [c]:Nat):Int)=0)=False:=by simp
 have h2:(((List.length [c]:Nat):Int)=1)=True:=by simp
 simp only [A4,go_sem,Ab,AK,AO,AP,Aa,KB_n,KB_x,Nat.reduceBEq,Nat.reduceAdd,Nat.reduceLT,Nat.reduceLeDiff,Nat.reduceEqDiff,reduceIte,Int.reduceEq,reduceCtorEq,Ag,h1,Is,h2]
 have hk:KR s [CT.id] (.i .i64 (idxB c 0 l)) (some ([.i .i64 (idxB c 0 l)],s.enter)):=AW (Over.enter s) rfl rfl
 by_cases hl:[c]=l
 · subst hl
   simp only [go_sem,Ab,AK,AO,AP,Aa,KB_n,KB_x,Nat.reduceBEq,Nat.reduceAdd,Nat.reduceLT,Nat.reduceLeDiff,Nat.reduceEqDiff,reduceIte,Int.reduceEq,reduceCtorEq,Ag,h1,Is,h2,eq_self,G0 _ c hc]
   exact AW (Over.enter s) rfl (by simp [Af,wkZ,wk,idxB])
 · have hl':([c]=l)=False:=by simp [hl]
   simp only [go_sem,Ab,AK,AO,AP,Aa,KB_n,KB_x,Nat.reduceBEq,Nat.reduceAdd,Nat.reduceLT,Nat.reduceLeDiff,Nat.reduceEqDiff,reduceIte,Int.reduceEq,reduceCtorEq,Ag,h1,Is,h2,hl',G0 _ c hc]
   exact hk
theorem OW (l:List Nat) (c:Nat) (hc:c < 256) (s:St):(lim prog).call EF [.s l,.s [c]] s=some (.i .i64 (idxB c 0 l),s):=by
 refine fn_W Im rfl rfl ?_
 simp only [Cy,go_sem,Ab,AK,AO,AP,Aa,KB_n,KB_x,Nat.reduceBEq,Nat.reduceAdd,Nat.reduceLT,Nat.reduceLeDiff,Nat.reduceEqDiff,reduceIte,Int.reduceEq,reduceCtorEq,OV l c hc]
 exact AW (Over.enter s) rfl rfl

def orN (c:Nat):Nat:=(BitVec.ofInt 8 (c:Int) ||| BitVec.ofInt 8 32).toNat
def Bc (c:Nat):Bool:=decide (c=95)||(decide (97≤orN c)&&decide (orN c≤122))
def Fz (c:Nat):Bool:=decide (48≤c)&&decide (c≤57)
theorem OP (c:Nat):Am.binOp .or (.i .u8 (c:Int)) (.i .u8 32)=some (.i .u8 (orN c:Int)):=by
 have h:orN c < 256:=(BitVec.ofInt 8 (c:Int) ||| BitVec.ofInt 8 32).isLt
 have e1:IntKind.u8.wrap ((orN c:Nat):Int)=(orN c:Int):=by
  have e2:(((orN c:Nat):Int) % 2^8)=(orN c:Int):=by omega
  simp only [IntKind.wrap,IntKind.signed,IntKind.bits,e2]
  rfl
 show some (AV.i .u8 (IntKind.u8.wrap ((orN c:Nat):Int)))=_
 rw [e1]
theorem F1 (c:Nat) (s:St):(lim prog).call Dr [.i .u8 (c:Int)] s=some (.b (Bc c),s):=by
 refine fn_W Ju rfl rfl ?_
 by_cases h1:c=95
 · have e1:((c:Int)=95)=True:=by simp; omega
   simp only [Cf,go_sem,Ab,AK,AO,AP,Aa,KB_n,KB_x,Nat.reduceBEq,Nat.reduceAdd,Nat.reduceLT,Nat.reduceLeDiff,Nat.reduceEqDiff,reduceIte,Int.reduceEq,reduceCtorEq,e1]
   exact AW (Over.enter s) rfl (by simp [Af,wkZ,wk,Bc,h1])
 · have e1:((c:Int)=95)=False:=by simp; omega
   by_cases h2:97≤orN c
   · have e2:((97:Int)≤(orN c:Int))=True:=by simp; omega
     simp only [Cf,go_sem,Ab,AK,AO,AP,Aa,KB_n,KB_x,Nat.reduceBEq,Nat.reduceAdd,Nat.reduceLT,Nat.reduceLeDiff,Nat.reduceEqDiff,reduceIte,Int.reduceEq,reduceCtorEq,e1,OP,e2]
     exact AW (Over.enter s) rfl (by simp [Af,wkZ,wk,Bc,h1,h2]; omega)
   · have e2:((97:Int)≤(orN c:Int))=False:=by simp; omega
     simp only [Cf,go_sem,Ab,AK,AO,AP,Aa,KB_n,KB_x,Nat.reduceBEq,Nat.reduceAdd,Nat.reduceLT,Nat.reduceLeDiff,Nat.reduceEqDiff,reduceIte,Int.reduceEq,reduceCtorEq,e1,OP,e2]
     exact AW (Over.enter s) rfl (by simp [Af,wkZ,wk,Bc,h1,h2])
theorem Me (c:Nat) (s:St):(lim prog).call Fx [.i .u8 (c:Int)] s=some (.b (Fz c),s):=by
 refine fn_W K2 rfl rfl ?_
 by_cases h1:48≤c
 · have e1:((48:Int)≤(c:Int))=True:=by simp; omega
   simp only [Df,go_sem,Ab,AK,AO,AP,Aa,KB_n,KB_x,Nat.reduceBEq,Nat.reduceAdd,Nat.reduceLT,Nat.reduceLeDiff,Nat.reduceEqDiff,reduceIte,Int.reduceEq,reduceCtorEq,e1]
   exact AW (Over.enter s) rfl (by simp [Af,wkZ,wk,Fz,h1]; omega)
 · have e1:((48:Int)≤(c:Int))=False:=by simp; omega
   simp only [Df,go_sem,Ab,AK,AO,AP,Aa,KB_n,KB_x,Nat.reduceBEq,Nat.reduceAdd,Nat.reduceLT,Nat.reduceLeDiff,Nat.reduceEqDiff,reduceIte,Int.reduceEq,reduceCtorEq,e1]
   exact AW (Over.enter s) rfl (by simp [Af,wkZ,wk,Fz,h1])
def Ek:Nat→List Nat→Nat
 | 0,_=>0
 | _+1,[]=>0
 | k+1,c::l=>if Bc c||Fz c then 1+Ek k l else 0
def leadN:List Nat→Nat
 | []=>0
 | c::l=>if Bc c then 1+Ek 63 l else 0
theorem Rg (l:List Nat) (hl:l.length < 2^62) (s:St):(lim prog).call GO [.s l] s=some (.i .i64 (leadN l:Int),s):=by
 refine fn_W Lk rfl rfl ?_
 cases l with
 | nil =>
   have e1:(([]:List Nat)=[])=True:=by simp
   simp only [Da,go_sem,Ab,AK,AO,AP,Aa,KB_n,KB_x,Nat.reduceBEq,Nat.reduceAdd,Nat.reduceLT,Nat.reduceLeDiff,Nat.reduceEqDiff,reduceIte,Int.reduceEq,reduceCtorEq,e1]
   exact AW (Over.enter s) rfl rfl
 | cons c l =>
   have e1:((c::l)=[])=False:=by simp
   cases hc:Bc c with
   | false =>
     simp only [Da,go_sem,Ab,AK,AO,AP,Aa,KB_n,KB_x,Nat.reduceBEq,Nat.reduceAdd,Nat.reduceLT,Nat.reduceLeDiff,Nat.reduceEqDiff,reduceIte,Int.reduceEq,reduceCtorEq,e1,Is,Ag,F1,hc]
     exact AW (Over.enter s) rfl (by simp [Af,wkZ,wk,leadN,hc])
   | true =>
     simp only [Da,go_sem,Ab,AK,AO,AP,Aa,KB_n,KB_x,Nat.reduceBEq,Nat.reduceAdd,Nat.reduceLT,Nat.reduceLeDiff,Nat.reduceEqDiff,reduceIte,Int.reduceEq,reduceCtorEq,e1,Is,Ag,F1,hc]
     have hln:leadN (c::l)=1+Ek 63 l:=by simp [leadN,hc]
     refine FM (fun n e q=>s.enter=q∧e.get 0=.s (c::l)∧∃ i:Nat,i+n=(c::l).length∧e.get 3=.i .i64 i∧i≤64∧leadN (c::l)=i+Ek (64 - i) ((c::l).drop i)) ?_ l.length _ _ ?_
     · rintro n e q ⟨rfl,g0,i,hi,g3,hi64,hld⟩
       have hend:Ek (64 - i) ((c::l).drop i)=0→KR s [CT.id] (.i .i64 (leadN (c::l):Int)) (some ([.i .i64 (i:Int)],s.enter)):=fun h=>AW (Over.enter s) rfl (by simp [Af,wkZ,wk]; omega)
       by_cases h1:i < (c::l).length
       · have e2:((i:Int) < ((c::l).length:Int))=True:=eq_true (by omega)
         by_cases h2:i < 64
         · have e3:((i:Int) < 64)=True:=eq_true (by omega)
           have hget:(c::l)[i]? = some (c::l)[i]:=List.getElem?_eq_getElem h1
           have hdrop:(c::l).drop i=(c::l)[i]::(c::l).drop (i+1):=List.drop_eq_getElem_cons h1
           generalize (c::l)[i]=d at hget hdrop
           have hgo:Ek (64 - i) ((c::l).drop i)=if Bc d||Fz d then 1+Ek (64 - (i+1)) ((c::l).drop (i+1)) else 0:=by
            rw [hdrop,show 64 - i=(64 - (i+1))+1 by omega]; rfl
           cases hd:Bc d with
           | true =>
             simp only [go_sem,Ab,AK,AO,AP,Aa,KB_n,KB_x,Nat.reduceBEq,Nat.reduceAdd,Nat.reduceLT,Nat.reduceLeDiff,Nat.reduceEqDiff,reduceIte,Int.reduceEq,reduceCtorEq,g0,g3,Ag,e2,e3,Aq,hget,F1,hd,Bh (show i+1 < 2^63 by omega)]
             refine ⟨n - 1,by omega,i+1,by omega,rfl,by omega,?_⟩
             rw [hd] at hgo
             simp only [Bool.true_or,if_true] at hgo
             omega
           | false =>
             cases hd2:Fz d with
             | true =>
               simp only [go_sem,Ab,AK,AO,AP,Aa,KB_n,KB_x,Nat.reduceBEq,Nat.reduceAdd,Nat.reduceLT,Nat.reduceLeDiff,Nat.reduceEqDiff,reduceIte,Int.reduceEq,reduceCtorEq,g0,g3,Ag,e2,e3,Aq,hget,F1,hd,Me,hd2,Bh (show i+1 < 2^63 by omega)]
               refine ⟨n - 1,by omega,i+1,by omega,rfl,by omega,?_⟩
               rw [hd,hd2] at hgo
               simp only [Bool.or_true,if_true] at hgo
               omega
             | false =>
               simp only [go_sem,Ab,AK,AO,AP,Aa,KB_n,KB_x,Nat.reduceBEq,Nat.reduceAdd,Nat.reduceLT,Nat.reduceLeDiff,Nat.reduceEqDiff,reduceIte,Int.reduceEq,reduceCtorEq,g0,g3,Ag,e2,e3,Aq,hget,F1,hd,Me,hd2]
               exact hend (by rw [hgo,hd,hd2]; rfl)
         · have e3:((i:Int) < 64)=False:=eq_false (by omega)
           simp only [go_sem,Ab,AK,AO,AP,Aa,KB_n,KB_x,Nat.reduceBEq,Nat.reduceAdd,Nat.reduceLT,Nat.reduceLeDiff,Nat.reduceEqDiff,reduceIte,Int.reduceEq,reduceCtorEq,g0,g3,Ag,e2,e3]
           exact hend (by rw [show 64 - i=0 by omega]; rfl)
       · have e2:((i:Int) < ((c::l).length:Int))=False:=eq_false (by omega)
         simp only [go_sem,Ab,AK,AO,AP,Aa,KB_n,KB_x,Nat.reduceBEq,Nat.reduceAdd,Nat.reduceLT,Nat.reduceLeDiff,Nat.reduceEqDiff,reduceIte,Int.reduceEq,reduceCtorEq,g0,g3,Ag,e2]
         exact hend (by
          rw [List.drop_eq_nil_of_le (by omega)]
          cases 64 - i<;>rfl)
     · simp only [go_sem,Ab,AK,AO,AP,Aa,KB_n,KB_x,Nat.reduceBEq,Nat.reduceAdd,Nat.reduceLT,Nat.reduceLeDiff,Nat.reduceEqDiff,reduceIte,Int.reduceEq,reduceCtorEq]
       exact ⟨1,by simp; omega,rfl,by omega,by rw [hln]; rfl⟩
def parK:List Nat:=[49,50,51,52,53,54,55,56,57,35,63]
theorem Lp (l:List Nat) (c:Nat) (hc:c < 256) (s:St):(lim prog).call CO [.s l,.s [c]] s=some (.b (decide ((0:Int)≤idxB c 0 l)),s):=by
 refine fn_W Gv rfl rfl ?_
 simp only [CS,go_sem,Ab,AK,AO,AP,Aa,KB_n,KB_x,Nat.reduceBEq,Nat.reduceAdd,Nat.reduceLT,Nat.reduceLeDiff,Nat.reduceEqDiff,reduceIte,Int.reduceEq,reduceCtorEq,OW l c hc]
 exact AW (Over.enter s) rfl rfl
def F2 (l:List Nat):Bool:=match l with
 | []=>false
 | [c]=>decide ((0:Int)≤idxB c 0 parK)||decide (leadN [c]=1)
 | c::d::r=>decide (leadN (c::d::r)=(c::d::r).length)
theorem Pn (l:List Nat) (hl:Txt l) (hl2:l.length < 2^62) (s:St):(lim prog).call Fw [.s l] s=some (.b (F2 l),s):=by
 refine fn_W K1 rfl rfl ?_
 have hlead:=Rg l hl2
 match l,hl,hl2,hlead with
 | [],_,_,_ =>
   have e0:((([]:List Nat).length:Int)=1)=False:=by simp
   have e1:(([]:List Nat)≠[])=False:=by simp
   simp only [Cb,go_sem,Ab,AK,AO,AP,Aa,KB_n,KB_x,Nat.reduceBEq,Nat.reduceAdd,Nat.reduceLT,Nat.reduceLeDiff,Nat.reduceEqDiff,reduceIte,Int.reduceEq,reduceCtorEq,Ag,e0,e1]
   exact AW (Over.enter s) rfl rfl
 | [c],hl,_,hlead =>
   have e0:(([c].length:Int)=1)=True:=by simp
   have e1:([c]≠[])=True:=by simp
   have hcon:∀ s,(lim prog).call CO [.s [49,50,51,52,53,54,55,56,57,35,63],.s [c]] s=some (.b (decide ((0:Int)≤idxB c 0 parK)),s):=fun s=>Lp parK c (hl.lt c (by simp)) s
   by_cases h:(0:Int)≤idxB c 0 parK
   · rw [decide_eq_true h] at hcon
     simp only [Cb,go_sem,Ab,AK,AO,AP,Aa,KB_n,KB_x,Nat.reduceBEq,Nat.reduceAdd,Nat.reduceLT,Nat.reduceLeDiff,Nat.reduceEqDiff,reduceIte,Int.reduceEq,reduceCtorEq,Ag,e0,e1,hcon]
     exact AW (Over.enter s) rfl (by simp [Af,wkZ,wk,F2,h])
   · rw [decide_eq_false h] at hcon
     simp only [Cb,go_sem,Ab,AK,AO,AP,Aa,KB_n,KB_x,Nat.reduceBEq,Nat.reduceAdd,Nat.reduceLT,Nat.reduceLeDiff,Nat.reduceEqDiff,reduceIte,Int.reduceEq,reduceCtorEq,Ag,e0,e1,hcon,hlead]
     exact AW (Over.enter s) rfl (by simp [Af,wkZ,wk,F2,h]; omega)
 | c::d::r,hl,_,hlead =>
   have e0:(((c::d::r).length:Int)=1)=False:=by simp; omega
   have e1:((c::d::r)≠[])=True:=by simp
   simp only [Cb,go_sem,Ab,AK,AO,AP,Aa,KB_n,KB_x,Nat.reduceBEq,Nat.reduceAdd,Nat.reduceLT,Nat.reduceLeDiff,Nat.reduceEqDiff,reduceIte,Int.reduceEq,reduceCtorEq,Ag,e0,e1,hlead]
   exact AW (Over.enter s) rfl (by
    simp only [Af,wkZ,wk,F2,AV.b.injEq,decide_eq_decide]
    omega)
def Dk (l:List Nat):Bool:=F2 l&&(decide (l≠[35])&&(decide (l≠[63])&&match l with
 | []=>false
 | c::_=>decide (c < 48)||decide (57 < c)))
theorem OQ (l:List Nat) (hl:Txt l) (hl2:l.length < 2^62) (s:St):(lim prog).call EE [.s l] s=some (.b (Dk l),s):=by
 refine fn_W Il rfl rfl ?_
 have hp:=Pn l hl hl2
 cases h:F2 l with
 | false =>
   rw [h] at hp
   simp only [BM,go_sem,Ab,AK,AO,AP,Aa,KB_n,KB_x,Nat.reduceBEq,Nat.reduceAdd,Nat.reduceLT,Nat.reduceLeDiff,Nat.reduceEqDiff,reduceIte,Int.reduceEq,reduceCtorEq,hp]
   exact AW (Over.enter s) rfl (by simp [Af,wkZ,wk,Dk,h])
 | true =>
 rw [h] at hp
 cases l with
 | nil=>cases h
 | cons c r =>
 by_cases h1:(c::r)=[35]
 · have e1:((c::r)≠[35])=False:=by simp [h1]
   simp only [BM,go_sem,Ab,AK,AO,AP,Aa,KB_n,KB_x,Nat.reduceBEq,Nat.reduceAdd,Nat.reduceLT,Nat.reduceLeDiff,Nat.reduceEqDiff,reduceIte,Int.reduceEq,reduceCtorEq,hp,e1]
   exact AW (Over.enter s) rfl (by rw [Dk,h]; simp [Af,wkZ,wk,h1])
 have e1:((c::r)≠[35])=True:=by simp only [eq_iff_iff,iff_true]; exact h1
 by_cases h2:(c::r)=[63]
 · have e2:((c::r)≠[63])=False:=by simp [h2]
   simp only [BM,go_sem,Ab,AK,AO,AP,Aa,KB_n,KB_x,Nat.reduceBEq,Nat.reduceAdd,Nat.reduceLT,Nat.reduceLeDiff,Nat.reduceEqDiff,reduceIte,Int.reduceEq,reduceCtorEq,hp,e1,e2]
   exact AW (Over.enter s) rfl (by rw [Dk,h]; simp [Af,wkZ,wk,h2])
 have e2:((c::r)≠[63])=True:=by simp only [eq_iff_iff,iff_true]; exact h2
 have hres:Dk (c::r)=(decide (c < 48)||decide (57 < c)):=by
  unfold Dk
  rw [h,decide_eq_true h1,decide_eq_true h2]; rfl
 by_cases h3:c < 48
 · have e3:((c:Int) < 48)=True:=eq_true (by omega)
   simp only [BM,go_sem,Ab,AK,AO,AP,Aa,KB_n,KB_x,Nat.reduceBEq,Nat.reduceAdd,Nat.reduceLT,Nat.reduceLeDiff,Nat.reduceEqDiff,reduceIte,Int.reduceEq,reduceCtorEq,hp,e1,e2,Is,Ag,e3]
   exact AW (Over.enter s) rfl (by rw [hres]; simp [Af,wkZ,wk,h3])
 · have e3:((c:Int) < 48)=False:=eq_false (by omega)
   simp only [BM,go_sem,Ab,AK,AO,AP,Aa,KB_n,KB_x,Nat.reduceBEq,Nat.reduceAdd,Nat.reduceLT,Nat.reduceLeDiff,Nat.reduceEqDiff,reduceIte,Int.reduceEq,reduceCtorEq,hp,e1,e2,Is,Ag,e3]
   exact AW (Over.enter s) rfl (by
    rw [hres]
    simp only [Af,wkZ,wk,decide_eq_false h3,Bool.false_or,AV.b.injEq,decide_eq_decide]
    omega)

theorem le11s:(1≤1)=True:=by simp
theorem OD (s:St):(lim prog).call AN [tx []] s=some (.ws true 1 [],{ s with lo:=min s.lo s.nb }):=by
 rw [Ez]
 unfold Fp
 rw [Bb]
 have h1:wkZ AJ.cin [tx []]=[.ws false 1 []]:=by
  simp [AJ,wkZ,wk,wkM]
 have h2:both AJ [.ws false 1 []]=some (.ws true 1 []):=by rfl
 have h3:Nat.ble [tx []].length AJ.ntmps=true:=rfl
 have h4:AJ.prim=none:=rfl
 simp only [h4,h3,h1,h2]
theorem M0 (x:List Nat) (L:List (List Nat)) (hL:(x::L).length < 2^38) (s:St) :
    (lim prog).call AN [tx (x::L)] s=some (.sl 1 ((x::L).map .s) (.tok s.nt 0),{ s.newTok (x::L).length (some 9) with lo:=min s.lo s.nb }):=by
 have h1:wkZ AJ.cin [tx (x::L)]=[tx (x::L)]:=by
  have:=(Qb (x::L)).wk
  simp only [AJ,wkZ,this]
 obtain ⟨r,s',hc,rfl,rfl⟩:=fn_K (t:=2) (s:=s) (args:=[tx (x::L)]) (Post:=fun r s'=>r=.sl 1 ((x::L).map .s) (.tok s.nt 0)∧s'={ s.newTok (x::L).length (some 9) with lo:=min s.lo s.nb }) Bb rfl rfl rfl (by rw [h1]; rfl) (by
  rw [h1]
  have heq:eqS (tx (x::L)) .nsl=some false:=rfl
  have ha:appA s.enter 1 9 (.sl 1 [] .full) (tx (x::L))=some (.sl 1 ((x::L).map .s) (.tok s.nt 0),s.enter.newTok (x::L).length (some 9)):=by
   simp only [tx,List.map_cons,appA,elems,if_true,List.nil_append,List.length_nil,Nat.zero_add,true_and]
   rw [if_pos (by simpa using hL)]
   simp [St.enter]
  have hal:AY 1 []=true:=rfl
  simp only [AJ,go_sem,Ab,AK,AO,AP,Aa,KB_n,KB_x,Nat.reduceBEq,Nat.reduceAdd,Nat.reduceLT,Nat.reduceLeDiff,Nat.reduceEqDiff,reduceIte,Int.reduceEq,reduceCtorEq,heq,hal,le11s,ha,KK_n,KK_r]
  rfl)
 exact hc
theorem Pb {s0 s:St} {n:En} {R:List RA} {B:List (Nat×Box)} (H:Hp s0 s n R B) (L:List (List Nat)) (hL:L.length < 2^38) :
    ∃ r s',(lim prog).call AN [tx L] s=some (r,s')∧Hp s0 s' n (⟨1,9,r,L.map .s,true⟩::R) B∧s'.nb=s.nb:=by
 have hlo:=H.lo
 have h1:=H.over.lo
 have h2:=H.over.nb
 cases L with
 | nil =>
   refine ⟨_,_,OD s,?_,rfl⟩
   exact (H.setLo (m:=min s.lo s.nb) (by omega) (by omega)).addFull 1 9 true .ws
 | cons x L =>
   refine ⟨_,_,M0 x L hL s,?_,rfl⟩
   have:=H.newTok 1 9 ((x::L).map .s)
   rw [List.length_map] at this
   exact this.setLo (m:=min s.lo s.nb) (by omega) (by omega)
end Go.Proofs.Ytfpoihibfajhlaa

set_option maxHeartbeats 2000000
namespace Go.Proofs.Ytfpoihibfajhlaa
open Go.Proofs.Ytfpoihibfajhlaa.Am
attribute [local irreducible] W WO WE WQ WD Tr.get Tr.set
def Dl (v:VV) (name value l:List Nat):List Nat:=if l=name then value else v.values.getD (idxL l v.names).toNat []
def setK (v:VV) (name:List Nat):List (List Nat):=setN (v.names++[name])
def setV (v:VV) (name value:List Nat):VV:=⟨setK v name,(setK v name).map (Dl v name value),v.args,v.status⟩
def setE (name value:List Nat):Nat:=if Dk name=false then 1 else if 1024 < value.length then 40 else 0
def noV:VV:=⟨[],[],[],0⟩
abbrev noV0:List AV:=[.nsl,.nsl,.nsl,.i .i64 0]
def setR (v:VV) (name value:List Nat):VV:=if setE name value=0 then setV v name value else noV
theorem alS1 (a:List Nat):AY 1 [AV.s a]=true:=rfl
theorem OS {args:List AV} {s:St}:(lim prog).call Bg args s=E6 args s:=JK EG rfl
theorem OT {args:List AV} {s:St}:(lim prog).call BK args s=Cn args s:=JK Dg rfl
theorem Po {l:List Nat} {L:List (List Nat)} (h:l∈L):∃ j:Nat,idxL l L=(j:Int)∧j < L.length:=by
 unfold idxL
 cases hf:L.findIdx? (·==l) with
 | some i=>exact ⟨i,rfl,by rw [List.findIdx?_eq_some_iff_getElem] at hf; exact hf.1⟩
 | none =>
   rw [List.findIdx?_eq_none_iff] at hf
   have:=hf l h
   simp at this
theorem getD_some {L:List (List Nat)} {j:Nat} (h:j < L.length):∃ y,(L.map AV.s)[j]? = some (.s y)∧L.getD j []=y:=⟨L[j],by simp [h],by simp [List.getD_eq_getElem?_getD,h]⟩
theorem OU {L:List (List Nat)} {j:Nat} (h:¬ j < L.length):L.getD j []=[]:=by simp [List.getD_eq_getElem?_getD,h]
theorem Lq {s0 q:St} {n:En} {B:List (Nat×Box)} {an av a1 st:AV} {A V:List (List Nat)} {l x:List Nat} {e:Tr} {i8:Nat} {p:Nat×Box} {Q:Ex→Tr→St→Prop}
    (H:Hp s0 q n [⟨1,9,an,A.map .s,true⟩,⟨1,9,av,V.map .s,true⟩] (p::(i8,.cells 26 [an,av,a1,st])::B)) (g8:e.get 8=.p i8 0) (g11:e.get 11=.s l) (g12:e.get 12=.s x) (hA:A.length+1 < 2^38) (hV:V.length+1 < 2^38)
    (k:∀ e' an' av' q',Sm 63 e e'→Hp s0 q' n [⟨1,9,an',(A++[l]).map .s,true⟩,⟨1,9,av',(V++[x]).map .s,true⟩] (p::(i8,.cells 26 [an',av',a1,st])::B)→Q .n e' q') :
    W (lim prog) (subC BL.body [1,1,1,1,1,0,1,0,0,1,1,0,0,1,1,1]) e q Q:=by
 obtain ⟨an',q1,h1,H1,_,p1⟩:=H.app 0 (y:=.sl 1 [.s l] .full) (ys:=[.s l]) rfl (by simp [elems,St.ok]) (by simp; omega)
 obtain ⟨av',q2,h2,H2,_,p2⟩:=H1.app 1 (y:=.sl 1 [.s x] .full) (ys:=[.s x]) rfl (by simp [elems,St.ok]) (by simp; omega)
 obtain ⟨q3,h3,H3,_,_⟩:=H2.st 1 (off:=0) (v:=an') rfl (by simp) ⟨(H2.rcells 0 rfl).1,(H2.rcells 0 rfl).2.1⟩
 obtain ⟨q4,h4,H4,_,_⟩:=H3.st 1 (off:=1) (v:=av') rfl (by simp) ⟨(H3.rcells 1 rfl).1,(H3.rcells 1 rfl).2.1⟩
 have l1:=H.ld 1 (off:=0) rfl rfl
 have l2:=H1.ld 1 (off:=1) rfl rfl
 have l3:=H.ld 1 (off:=1) rfl rfl
 simp only [BL,subC]
 refine Ij rfl ?_
 have r0:=H.rld 0 rfl
 have r1:=H1.rld 1 rfl
 simp only [go_sem,AI,AB,AD,AC,KB_n,KB_x,Nat.reduceBEq,Nat.reduceAdd,Nat.reduceLT,Nat.reduceLeDiff,Nat.reduceEqDiff,reduceIte,Int.reduceEq,reduceCtorEq,g8,g11,g12,l1,l2,h1,h2,h3,h4,alS1,Nat.zero_add,r0,r1]
 refine Kz rfl ?_ (H.still 1 rfl (Eg _)) ⟨⟨_,rfl,l2⟩,⟨_,rfl,l3⟩,⟨_,rfl,l2⟩,⟨_,rfl,l2⟩,trivial⟩ (Ik ?_)
 · simp only [go_sem,AI,AB,AD,AC,KB_n,KB_x,Nat.reduceBEq,Nat.reduceAdd,Nat.reduceLT,Nat.reduceLeDiff,Nat.reduceEqDiff,reduceIte,Int.reduceEq,reduceCtorEq]
 refine k _ an' av' _ ?_ ?_
 · repeat first | exact Sm.refl _ _ | refine Sm.put ?_ (by decide) (by decide)
 · rw [List.map_append,List.map_append]
   exact H4
end Go.Proofs.Ytfpoihibfajhlaa

namespace Go.Proofs.Ytfpoihibfajhlaa
open Go.Proofs.Ytfpoihibfajhlaa.Am
section
variable {v:VV} {name value:List Nat} (hall:∀ l∈v.names++[name],∀ n∈l,n < 256)
include hall
end
theorem Pm (v:VV) (name:List Nat):(setK v name).length≤v.names.length+1:=by
 have h1:=IZ (ED (v.names++[name]))
 have h2:=IY (v.names++[name])
 simp only [List.length_append,List.length_singleton] at h2
 show (ER (ED (v.names++[name]))).length≤_
 omega
end Go.Proofs.Ytfpoihibfajhlaa

set_option maxHeartbeats 4000000
namespace Go.Proofs.Ytfpoihibfajhlaa
open Go.Proofs.Ytfpoihibfajhlaa.Am
theorem RN {s:St} {T id:Nat} {a b c d:AV} (h:s.box? id=some (.cells T [a,b,c,d])):ldA s true 4 (.p id 0)=some (.agg [a,b,c,d]):=by
 simp [ldA,St.cells?,h,cut,scal]
theorem OE:∀ L:List (List Nat),AV.refs.go (L.map AV.s)=false
 | []=>rfl
 | _::L=>by simp [AV.refs.go,AV.refs,OE L]
theorem len1 (a:AV):[a].length=1:=rfl
theorem Ll {f:Nat} {fn:Fun} {args args':List AV} {s:St} (hp:prog f=some fn) (hpr:fn.prim=none) (hk:fn.keep=false) (hl:args.length=args'.length) (hw:wkZ fn.cin args=wkZ fn.cin args') :
    (lim prog).call f args s=(lim prog).call f args' s:=by
 rw [Ez,Ez]
 unfold Fp
 have hb:∀ l,both fn l=none:=fun l=>by unfold both; rw [hk]
 simp only [hp,hpr,hb,hl,hw]
theorem Jv {α:Type} (f:α→Nat):∀ l:List α,l.length≤(l.map fun a=>f a+1).sum
 | []=>by simp
 | a::l=>by
   have:=Jv f l
   simp only [List.map_cons,List.sum_cons,List.length_cons]; omega
theorem Jw {α:Type} (f:α→Nat):∀ {l:List α} {a:α},a∈l→f a≤(l.map f).sum
 | b :: l,a,h=>by
   rcases List.mem_cons.1 h with rfl | h
   · simp
   · have:=Jw f h
     simp only [List.map_cons,List.sum_cons]; omega
theorem OF:∀ l:List AV,wkM .id l=l
 | []=>rfl
 | a::l=>by simp [wkM,wk,OF l]
abbrev K3 (ps:List PP):AV:=.ws false 3 (ps.map fun p=>AV.agg p.cells)
theorem beqN_refl:∀ l:List Nat,beqN l l=true
 | []=>rfl
 | a::l=>by simp [beqN,beqN_refl l]
theorem OG:∀ L:List (List Nat),Et (L.map .s) (L.map .s)=true
 | []=>rfl
 | l::L=>by simp [Et,beqA,beqN_refl,OG L]
theorem MV (L:List (List Nat)):beqA (tx L) (tx L)=true:=by
 simp only [beqA,OG]; rfl
def textsF:Nat→List (List Nat)→Nat
 | n,[]=>n
 | n,l::L=>if n < 20000 then textsF (n+1+min l.length 20000) L else n
theorem K4:∀ (L:List (List Nat)) (n:Nat),n≤textsF n L
 | [],n=>Nat.le_refl _
 | l :: L,n=>by
   unfold textsF
   split
   · have:=K4 L (n+1+min l.length 20000)
     omega
   · exact Nat.le_refl _
theorem Gx:∀ (L:List (List Nat)) (n:Nat),n≤40000→textsF n L≤40000
 | [],n,h=>h
 | l::L,n,h=>by
   unfold textsF
   split
   · exact Gx L _ (by omega)
   · exact h
theorem EN:∀ (L:List (List Nat)) (n:Nat),textsF n L < 20000→n+(L.map fun l=>l.length+1).sum≤textsF n L
 | [],n,_=>by simp [textsF]
 | l :: L,n,h=>by
   unfold textsF at h ⊢
   split at h
   · rename_i hn
     rw [if_pos hn]
     have h1:=EN L _ h
     have h2:=K4 L (n+1+min l.length 20000)
     simp only [List.map_cons,List.sum_cons]
     omega
   · omega
theorem K5 (n:Nat):(if (20000:Int) < (n:Int) then (20000:Int) else (n:Int))=((min n 20000:Nat):Int):=by
 split<;>omega
theorem Jx (L:List (List Nat)) (hL:L.length < 2^63) (s:St):(lim prog).call A7 [tx L] s=some (.i .i64 (textsF 0 L:Nat),s):=by
 refine fn_W FA rfl rfl ?_
 simp only [BX,BR,FV,FU,Ab,FW,DM,DN,FT,Aa,DP,CA,AK,CI,Fa,Fb,Fc,Fd,Bool.not_true,Bool.not_false,DR,CH,BG,CB,CD,KS_n,KS_x,KS_r,KB_n,KB_x,KB_r,FR,FS,FX,DQ,KF_n,KF_r,KG_n,KG_r,KL_n,KL_x,KL_r,CF,Bj,evOp,evX,X.ev,optX,BU,Bi,Bk,FY,FZ,Nat.reduceBEq,Nat.reduceAdd,Nat.reduceLT,Nat.reduceLeDiff,Nat.reduceEqDiff,reduceIte,if_true,if_false,C8,C9,DA,DB,DC,DD,DE,DF,DG,DH,DI,DJ,Am.unOp,ret1,pubL,pub,pubA,B7,wkZ,wk,BE,Cc,Af,BF,AOp.cls,Nat.beq_eq,Bool.or_eq_true,decide_true,decide_false,beq_self_eq_true,Bool.true_or,Bool.or_true,true_and,and_true,lenA,eqv,eqB,eqP,scal,AQ,List.getElem?_cons_zero,List.getElem?_cons_succ,DK,DL,Dm,updM,FO,FP,FQ,Int.reduceEq,ret1,Ch,B9,reduceCtorEq,Bool.xor_true,Bool.xor_false,Bool.false_eq_true,List.all_cons,List.all_nil,noTok,Bool.and_self,Bool.and_true,Bool.true_and,List.length_map,Ag]
 refine FM (fun n e q=>q=s.enter∧e.get 0=tx L∧∃ i k:Nat,i+n=L.length∧e.get 3=.i .i64 k∧e.get 4=.i .i64 i∧k≤40000∧textsF k (L.drop i)=textsF 0 L) ?_ L.length _ _ ?_
 · rintro n e q ⟨rfl,h0,i,k,hi,h3,h4,hk,hn⟩
   simp only [BR,FV,FU,Ab,FW,DM,DN,FT,Aa,DP,CA,AK,CI,Fa,Fb,Fc,Fd,Bool.not_true,Bool.not_false,DR,CH,BG,CB,CD,KS_n,KS_x,KS_r,KB_n,KB_x,KB_r,FR,FS,FX,DQ,KF_n,KF_r,KG_n,KG_r,KL_n,KL_x,KL_r,CF,Bj,evOp,evX,X.ev,optX,BU,Bi,Bk,FY,FZ,Nat.reduceBEq,Nat.reduceAdd,Nat.reduceLT,Nat.reduceLeDiff,Nat.reduceEqDiff,reduceIte,if_true,if_false,C8,C9,DA,DB,DC,DD,DE,DF,DG,DH,DI,DJ,Am.unOp,ret1,pubL,pub,pubA,B7,wkZ,wk,BE,Cc,Af,BF,AOp.cls,Nat.beq_eq,Bool.or_eq_true,decide_true,decide_false,beq_self_eq_true,Bool.true_or,Bool.or_true,true_and,and_true,lenA,eqv,eqB,eqP,scal,AQ,List.getElem?_cons_zero,List.getElem?_cons_succ,DK,DL,Dm,updM,FO,FP,FQ,Int.reduceEq,ret1,Ch,B9,reduceCtorEq,Bool.xor_true,Bool.xor_false,Bool.false_eq_true,List.all_cons,List.all_nil,noTok,Bool.and_self,Bool.and_true,Bool.true_and,h0,h3,h4,List.length_map,Ag]
   by_cases hlt:i < L.length
   · have hd:L.drop i=L[i]::L.drop (i+1):=List.drop_eq_getElem_cons hlt
     have hlt':((i:Int) < (L.length:Int))=True:=by simp; omega
     by_cases hk2:k < 20000
     · have hk':((k:Int) < 20000)=True:=by simp; omega
       have hk1:IntKind.i64.wrap ((k:Int)+1)=((k+1:Nat):Int):=Bh (by omega)
       have hmm:=K5 L[i].length
       have hadd:IntKind.i64.wrap (((k+1:Nat):Int)+((min L[i].length 20000:Nat):Int))=((k+1+min L[i].length 20000:Nat):Int):=by
        rw [← Gy (show k+1+min L[i].length 20000 < 2^63 by omega)]; simp
       simp only [BR,FV,FU,Ab,FW,DM,DN,FT,Aa,DP,CA,AK,CI,Fa,Fb,Fc,Fd,Bool.not_true,Bool.not_false,DR,CH,BG,CB,CD,KS_n,KS_x,KS_r,KB_n,KB_x,KB_r,FR,FS,FX,DQ,KF_n,KF_r,KG_n,KG_r,KL_n,KL_x,KL_r,CF,Bj,evOp,evX,X.ev,optX,BU,Bi,Bk,FY,FZ,Nat.reduceBEq,Nat.reduceAdd,Nat.reduceLT,Nat.reduceLeDiff,Nat.reduceEqDiff,reduceIte,if_true,if_false,C8,C9,DA,DB,DC,DD,DE,DF,DG,DH,DI,DJ,Am.unOp,ret1,pubL,pub,pubA,B7,wkZ,wk,BE,Cc,Af,BF,AOp.cls,Nat.beq_eq,Bool.or_eq_true,decide_true,decide_false,beq_self_eq_true,Bool.true_or,Bool.or_true,true_and,and_true,lenA,eqv,eqB,eqP,scal,AQ,List.getElem?_cons_zero,List.getElem?_cons_succ,DK,DL,Dm,updM,FO,FP,FQ,Int.reduceEq,ret1,Ch,B9,reduceCtorEq,Bool.xor_true,Bool.xor_false,Bool.false_eq_true,List.all_cons,List.all_nil,noTok,Bool.and_self,Bool.and_true,Bool.true_and,h0,h3,h4,hlt',hk',hk1,Aq,Md hlt,FE,J2,Ag,hmm,hadd,Bh (show i+1 < 2^63 by omega)]
       refine ⟨n - 1,by omega,i+1,k+1+min L[i].length 20000,by omega,rfl,rfl,by omega,?_⟩
       rw [← hn,hd]
       simp only [textsF,if_pos hk2]
     · have hk':((k:Int) < 20000)=False:=by simp; omega
       simp only [BR,FV,FU,Ab,FW,DM,DN,FT,Aa,DP,CA,AK,CI,Fa,Fb,Fc,Fd,Bool.not_true,Bool.not_false,DR,CH,BG,CB,CD,KS_n,KS_x,KS_r,KB_n,KB_x,KB_r,FR,FS,FX,DQ,KF_n,KF_r,KG_n,KG_r,KL_n,KL_x,KL_r,CF,Bj,evOp,evX,X.ev,optX,BU,Bi,Bk,FY,FZ,Nat.reduceBEq,Nat.reduceAdd,Nat.reduceLT,Nat.reduceLeDiff,Nat.reduceEqDiff,reduceIte,if_true,if_false,C8,C9,DA,DB,DC,DD,DE,DF,DG,DH,DI,DJ,Am.unOp,ret1,pubL,pub,pubA,B7,wkZ,wk,BE,Cc,Af,BF,AOp.cls,Nat.beq_eq,Bool.or_eq_true,decide_true,decide_false,beq_self_eq_true,Bool.true_or,Bool.or_true,true_and,and_true,lenA,eqv,eqB,eqP,scal,AQ,List.getElem?_cons_zero,List.getElem?_cons_succ,DK,DL,Dm,updM,FO,FP,FQ,Int.reduceEq,ret1,Ch,B9,reduceCtorEq,Bool.xor_true,Bool.xor_false,Bool.false_eq_true,List.all_cons,List.all_nil,noTok,Bool.and_self,Bool.and_true,Bool.true_and,h0,h3,h4,hlt',hk']
       exact AW (Over.enter s) rfl (by
        rw [hd] at hn
        simp only [textsF,if_neg hk2] at hn
        simp [Af,wkZ,wk,hn])
   · have hlt':((i:Int) < (L.length:Int))=False:=by simp; omega
     simp only [BR,FV,FU,Ab,FW,DM,DN,FT,Aa,DP,CA,AK,CI,Fa,Fb,Fc,Fd,Bool.not_true,Bool.not_false,DR,CH,BG,CB,CD,KS_n,KS_x,KS_r,KB_n,KB_x,KB_r,FR,FS,FX,DQ,KF_n,KF_r,KG_n,KG_r,KL_n,KL_x,KL_r,CF,Bj,evOp,evX,X.ev,optX,BU,Bi,Bk,FY,FZ,Nat.reduceBEq,Nat.reduceAdd,Nat.reduceLT,Nat.reduceLeDiff,Nat.reduceEqDiff,reduceIte,if_true,if_false,C8,C9,DA,DB,DC,DD,DE,DF,DG,DH,DI,DJ,Am.unOp,ret1,pubL,pub,pubA,B7,wkZ,wk,BE,Cc,Af,BF,AOp.cls,Nat.beq_eq,Bool.or_eq_true,decide_true,decide_false,beq_self_eq_true,Bool.true_or,Bool.or_true,true_and,and_true,lenA,eqv,eqB,eqP,scal,AQ,List.getElem?_cons_zero,List.getElem?_cons_succ,DK,DL,Dm,updM,FO,FP,FQ,Int.reduceEq,ret1,Ch,B9,reduceCtorEq,Bool.xor_true,Bool.xor_false,Bool.false_eq_true,List.all_cons,List.all_nil,noTok,Bool.and_self,Bool.and_true,Bool.true_and,h0,h3,h4,hlt']
     exact AW (Over.enter s) rfl (by
         rw [List.drop_eq_nil_of_le (by omega)] at hn
         simp only [textsF] at hn
         simp [Af,wkZ,wk,hn])
 · simp only [BR,FV,FU,Ab,FW,DM,DN,FT,Aa,DP,CA,AK,CI,Fa,Fb,Fc,Fd,Bool.not_true,Bool.not_false,DR,CH,BG,CB,CD,KS_n,KS_x,KS_r,KB_n,KB_x,KB_r,FR,FS,FX,DQ,KF_n,KF_r,KG_n,KG_r,KL_n,KL_x,KL_r,CF,Bj,evOp,evX,X.ev,optX,BU,Bi,Bk,FY,FZ,Nat.reduceBEq,Nat.reduceAdd,Nat.reduceLT,Nat.reduceLeDiff,Nat.reduceEqDiff,reduceIte,if_true,if_false,C8,C9,DA,DB,DC,DD,DE,DF,DG,DH,DI,DJ,Am.unOp,ret1,pubL,pub,pubA,B7,wkZ,wk,BE,Cc,Af,BF,AOp.cls,Nat.beq_eq,Bool.or_eq_true,decide_true,decide_false,beq_self_eq_true,Bool.true_or,Bool.or_true,true_and,and_true,lenA,eqv,eqB,eqP,scal,AQ,List.getElem?_cons_zero,List.getElem?_cons_succ,DK,DL,Dm,updM,FO,FP,FQ,Int.reduceEq,ret1,Ch,B9,reduceCtorEq,Bool.xor_true,Bool.xor_false,Bool.false_eq_true,List.all_cons,List.all_nil,noTok,Bool.and_self,Bool.and_true,Bool.true_and]
   exact ⟨0,0,by omega,rfl,rfl,by omega,rfl⟩
def Ej:Nat→List PP→Nat
 | n,[]=>n
 | n,p::L=>if n < 20000 then Ej (n+1+min p.text.length 20000) L else n
theorem K6:∀ (L:List PP) (n:Nat),n≤Ej n L
 | [],n=>Nat.le_refl _
 | l :: L,n=>by
   unfold Ej
   split
   · have:=K6 L (n+1+min l.text.length 20000)
     omega
   · exact Nat.le_refl _
theorem HZ:∀ (L:List PP) (n:Nat),Ej n L < 20000→n+(L.map fun p=>p.text.length+1).sum≤Ej n L
 | [],n,_=>by simp [Ej]
 | l :: L,n,h=>by
   unfold Ej at h ⊢
   split at h
   · rename_i hn
     rw [if_pos hn]
     have h1:=HZ L _ h
     have h2:=K6 L (n+1+min l.text.length 20000)
     simp only [List.map_cons,List.sum_cons]
     omega
   · omega
def Io (v:VV) (ps:List PP):Nat:=Ej (textsF 0 v.names+textsF 0 v.values+textsF 0 v.args) ps
def Ha (v:VV) (ps:List PP):Bool:=decide (20000≤Io v ps)||decide (200 < ps.length)
theorem Pc (v:VV) (hv:v.Ok) (ps:List PP) (hlen:ps.length < 2^63) (s:St):(lim prog).call BV [v.av,K3 ps] s=some (.b (Ha v ps),s):=by
 refine fn_W Cz rfl rfl ?_
 have b1:=Gx v.names 0 (by omega)
 have b2:=Gx v.values 0 (by omega)
 have b3:=Gx v.args 0 (by omega)
 have hadd1:IntKind.i64.wrap (((textsF 0 v.names:Nat):Int)+((textsF 0 v.values:Nat):Int))=((textsF 0 v.names+textsF 0 v.values:Nat):Int):=by
  rw [← Gy (show textsF 0 v.names+textsF 0 v.values < 2^63 by omega)]; simp
 have hadd2:IntKind.i64.wrap (((textsF 0 v.names+textsF 0 v.values:Nat):Int)+((textsF 0 v.args:Nat):Int))=((textsF 0 v.names+textsF 0 v.values+textsF 0 v.args:Nat):Int):=by
  rw [← Gy (show textsF 0 v.names+textsF 0 v.values+textsF 0 v.args < 2^63 by omega)]; simp
 simp only [A9,BR,FV,FU,Ab,FW,DM,DN,FT,Aa,DP,CA,AK,CI,Fa,Fb,Fc,Fd,Bool.not_true,Bool.not_false,DR,CH,BG,CB,CD,KS_n,KS_x,KS_r,KB_n,KB_x,KB_r,FR,FS,FX,DQ,KF_n,KF_r,KG_n,KG_r,KL_n,KL_x,KL_r,CF,Bj,evOp,evX,X.ev,optX,BU,Bi,Bk,FY,FZ,Nat.reduceBEq,Nat.reduceAdd,Nat.reduceLT,Nat.reduceLeDiff,Nat.reduceEqDiff,reduceIte,if_true,if_false,C8,C9,DA,DB,DC,DD,DE,DF,DG,DH,DI,DJ,Am.unOp,ret1,pubL,pub,pubA,B7,wkZ,wk,BE,Cc,Af,BF,AOp.cls,Nat.beq_eq,Bool.or_eq_true,decide_true,decide_false,beq_self_eq_true,Bool.true_or,Bool.or_true,true_and,and_true,lenA,eqv,eqB,eqP,scal,AQ,List.getElem?_cons_zero,List.getElem?_cons_succ,DK,DL,Dm,updM,FO,FP,FQ,Int.reduceEq,ret1,Ch,B9,reduceCtorEq,Bool.xor_true,Bool.xor_false,Bool.false_eq_true,List.all_cons,List.all_nil,noTok,Bool.and_self,Bool.and_true,Bool.true_and,Gz,len4,ld4_0,ld4_1,ld4_2,Nat.zero_add,Jx _ hv.n,Jx _ hv.w,Jx _ hv.a,hadd1,hadd2]
 obtain ⟨s1,hs1⟩:∃ s1,s.enter.new (.cells 24 v.cells)=s1:=⟨_,rfl⟩
 have ov1:Over s s1:=by rw [← hs1]; exact (Over.enter s).new _
 simp only [hs1]
 refine FM (fun n e q=>q=s1∧e.get 1=K3 ps∧∃ i k:Nat,i+n=ps.length∧e.get 5=.i .i64 k∧e.get 6=.i .i64 i∧k≤120000∧Ej k (ps.drop i)=Io v ps) ?_ ps.length _ _ ?_
 · rintro n e q ⟨rfl,h1,i,k,hi,h5,h6,hk,hn⟩
   simp only [BR,FV,FU,Ab,FW,DM,DN,FT,Aa,DP,CA,AK,CI,Fa,Fb,Fc,Fd,Bool.not_true,Bool.not_false,DR,CH,BG,CB,CD,KS_n,KS_x,KS_r,KB_n,KB_x,KB_r,FR,FS,FX,DQ,KF_n,KF_r,KG_n,KG_r,KL_n,KL_x,KL_r,CF,Bj,evOp,evX,X.ev,optX,BU,Bi,Bk,FY,FZ,Nat.reduceBEq,Nat.reduceAdd,Nat.reduceLT,Nat.reduceLeDiff,Nat.reduceEqDiff,reduceIte,if_true,if_false,C8,C9,DA,DB,DC,DD,DE,DF,DG,DH,DI,DJ,Am.unOp,ret1,pubL,pub,pubA,B7,wkZ,wk,BE,Cc,Af,BF,AOp.cls,Nat.beq_eq,Bool.or_eq_true,decide_true,decide_false,beq_self_eq_true,Bool.true_or,Bool.or_true,true_and,and_true,lenA,eqv,eqB,eqP,scal,AQ,List.getElem?_cons_zero,List.getElem?_cons_succ,DK,DL,Dm,updM,FO,FP,FQ,Int.reduceEq,ret1,Ch,B9,reduceCtorEq,Bool.xor_true,Bool.xor_false,Bool.false_eq_true,List.all_cons,List.all_nil,noTok,Bool.and_self,Bool.and_true,Bool.true_and,h1,h5,h6,List.length_map,Ag]
   by_cases hlt:i < ps.length
   · have hd:ps.drop i=ps[i]::ps.drop (i+1):=List.drop_eq_getElem_cons hlt
     have hlt':((i:Int) < (ps.length:Int))=True:=by simp; omega
     have hget:(ps.map fun p=>AV.agg p.cells)[i]? = some (.agg ps[i].cells):=by simp [hlt]
     by_cases hk2:k < 20000
     · have hk':((k:Int) < 20000)=True:=by simp; omega
       have hk1:IntKind.i64.wrap ((k:Int)+1)=((k+1:Nat):Int):=Bh (by omega)
       have hmm:=K5 ps[i].text.length
       have hadd:IntKind.i64.wrap (((k+1:Nat):Int)+((min ps[i].text.length 20000:Nat):Int))=((k+1+min ps[i].text.length 20000:Nat):Int):=by
        rw [← Gy (show k+1+min ps[i].text.length 20000 < 2^63 by omega)]; simp
       have hthw:Hc q (K3 ps)=some (K3 ps,q):=rfl
       have hld:ldA q false 1 (.ep ps[i].cells 1 .shut)=some (.s ps[i].text):=rfl
       simp only [BR,FV,FU,Ab,FW,DM,DN,FT,Aa,DP,CA,AK,CI,Fa,Fb,Fc,Fd,Bool.not_true,Bool.not_false,DR,CH,BG,CB,CD,KS_n,KS_x,KS_r,KB_n,KB_x,KB_r,FR,FS,FX,DQ,KF_n,KF_r,KG_n,KG_r,KL_n,KL_x,KL_r,CF,Bj,evOp,evX,X.ev,optX,BU,Bi,Bk,FY,FZ,Nat.reduceBEq,Nat.reduceAdd,Nat.reduceLT,Nat.reduceLeDiff,Nat.reduceEqDiff,reduceIte,if_true,if_false,C8,C9,DA,DB,DC,DD,DE,DF,DG,DH,DI,DJ,Am.unOp,ret1,pubL,pub,pubA,B7,wkZ,wk,BE,Cc,Af,BF,AOp.cls,Nat.beq_eq,Bool.or_eq_true,decide_true,decide_false,beq_self_eq_true,Bool.true_or,Bool.or_true,true_and,and_true,lenA,eqv,eqB,eqP,scal,AQ,List.getElem?_cons_zero,List.getElem?_cons_succ,DK,DL,Dm,updM,FO,FP,FQ,Int.reduceEq,ret1,Ch,B9,reduceCtorEq,Bool.xor_true,Bool.xor_false,Bool.false_eq_true,List.all_cons,List.all_nil,noTok,Bool.and_self,Bool.and_true,Bool.true_and,W_thw,hthw,h1,h5,h6,hlt',hk',hk1,Aq,hget,Gz,Nat.zero_add,hld,Ag,hmm,hadd,Bh (show i+1 < 2^63 by omega)]
       refine ⟨n - 1,by omega,i+1,k+1+min ps[i].text.length 20000,by omega,rfl,rfl,by omega,?_⟩
       rw [← hn,hd]
       simp only [Ej,if_pos hk2]
     · have hk':((k:Int) < 20000)=False:=by simp; omega
       have hk'':((k:Int) ≥ 20000)=True:=by simp; omega
       simp only [BR,FV,FU,Ab,FW,DM,DN,FT,Aa,DP,CA,AK,CI,Fa,Fb,Fc,Fd,Bool.not_true,Bool.not_false,DR,CH,BG,CB,CD,KS_n,KS_x,KS_r,KB_n,KB_x,KB_r,FR,FS,FX,DQ,KF_n,KF_r,KG_n,KG_r,KL_n,KL_x,KL_r,CF,Bj,evOp,evX,X.ev,optX,BU,Bi,Bk,FY,FZ,Nat.reduceBEq,Nat.reduceAdd,Nat.reduceLT,Nat.reduceLeDiff,Nat.reduceEqDiff,reduceIte,if_true,if_false,C8,C9,DA,DB,DC,DD,DE,DF,DG,DH,DI,DJ,Am.unOp,ret1,pubL,pub,pubA,B7,wkZ,wk,BE,Cc,Af,BF,AOp.cls,Nat.beq_eq,Bool.or_eq_true,decide_true,decide_false,beq_self_eq_true,Bool.true_or,Bool.or_true,true_and,and_true,lenA,eqv,eqB,eqP,scal,AQ,List.getElem?_cons_zero,List.getElem?_cons_succ,DK,DL,Dm,updM,FO,FP,FQ,Int.reduceEq,ret1,Ch,B9,reduceCtorEq,Bool.xor_true,Bool.xor_false,Bool.false_eq_true,List.all_cons,List.all_nil,noTok,Bool.and_self,Bool.and_true,Bool.true_and,h1,h5,h6,hlt',hk',hk'']
       exact AW ov1 rfl (by
        rw [hd] at hn
        simp only [Ej,if_neg hk2] at hn
        have:20000≤Io v ps:=by omega
        simp [Af,wkZ,wk,Ha,this])
   · have hlt':((i:Int) < (ps.length:Int))=False:=by simp; omega
     rw [List.drop_eq_nil_of_le (by omega)] at hn
     simp only [Ej] at hn
     by_cases hk2:k < 20000
     · have hk':((k:Int) ≥ 20000)=False:=by simp; omega
       simp only [BR,FV,FU,Ab,FW,DM,DN,FT,Aa,DP,CA,AK,CI,Fa,Fb,Fc,Fd,Bool.not_true,Bool.not_false,DR,CH,BG,CB,CD,KS_n,KS_x,KS_r,KB_n,KB_x,KB_r,FR,FS,FX,DQ,KF_n,KF_r,KG_n,KG_r,KL_n,KL_x,KL_r,CF,Bj,evOp,evX,X.ev,optX,BU,Bi,Bk,FY,FZ,Nat.reduceBEq,Nat.reduceAdd,Nat.reduceLT,Nat.reduceLeDiff,Nat.reduceEqDiff,reduceIte,if_true,if_false,C8,C9,DA,DB,DC,DD,DE,DF,DG,DH,DI,DJ,Am.unOp,ret1,pubL,pub,pubA,B7,wkZ,wk,BE,Cc,Af,BF,AOp.cls,Nat.beq_eq,Bool.or_eq_true,decide_true,decide_false,beq_self_eq_true,Bool.true_or,Bool.or_true,true_and,and_true,lenA,eqv,eqB,eqP,scal,AQ,List.getElem?_cons_zero,List.getElem?_cons_succ,DK,DL,Dm,updM,FO,FP,FQ,Int.reduceEq,ret1,Ch,B9,reduceCtorEq,Bool.xor_true,Bool.xor_false,Bool.false_eq_true,List.all_cons,List.all_nil,noTok,Bool.and_self,Bool.and_true,Bool.true_and,h1,h5,h6,hlt',hk',List.length_map,Ag]
       exact AW ov1 rfl (by
        have e1:¬ 20000≤Io v ps:=by omega
        have e2:((ps.length:Int) > 200)=(200 < ps.length):=by simp; omega
        simp [Af,wkZ,wk,Ha,e1,e2])
     · have hk'':((k:Int) ≥ 20000)=True:=by simp; omega
       simp only [BR,FV,FU,Ab,FW,DM,DN,FT,Aa,DP,CA,AK,CI,Fa,Fb,Fc,Fd,Bool.not_true,Bool.not_false,DR,CH,BG,CB,CD,KS_n,KS_x,KS_r,KB_n,KB_x,KB_r,FR,FS,FX,DQ,KF_n,KF_r,KG_n,KG_r,KL_n,KL_x,KL_r,CF,Bj,evOp,evX,X.ev,optX,BU,Bi,Bk,FY,FZ,Nat.reduceBEq,Nat.reduceAdd,Nat.reduceLT,Nat.reduceLeDiff,Nat.reduceEqDiff,reduceIte,if_true,if_false,C8,C9,DA,DB,DC,DD,DE,DF,DG,DH,DI,DJ,Am.unOp,ret1,pubL,pub,pubA,B7,wkZ,wk,BE,Cc,Af,BF,AOp.cls,Nat.beq_eq,Bool.or_eq_true,decide_true,decide_false,beq_self_eq_true,Bool.true_or,Bool.or_true,true_and,and_true,lenA,eqv,eqB,eqP,scal,AQ,List.getElem?_cons_zero,List.getElem?_cons_succ,DK,DL,Dm,updM,FO,FP,FQ,Int.reduceEq,ret1,Ch,B9,reduceCtorEq,Bool.xor_true,Bool.xor_false,Bool.false_eq_true,List.all_cons,List.all_nil,noTok,Bool.and_self,Bool.and_true,Bool.true_and,h1,h5,h6,hlt',hk'']
       exact AW ov1 rfl (by
        have:20000≤Io v ps:=by omega
        simp [Af,wkZ,wk,Ha,this])
 · simp only [BR,FV,FU,Ab,FW,DM,DN,FT,Aa,DP,CA,AK,CI,Fa,Fb,Fc,Fd,Bool.not_true,Bool.not_false,DR,CH,BG,CB,CD,KS_n,KS_x,KS_r,KB_n,KB_x,KB_r,FR,FS,FX,DQ,KF_n,KF_r,KG_n,KG_r,KL_n,KL_x,KL_r,CF,Bj,evOp,evX,X.ev,optX,BU,Bi,Bk,FY,FZ,Nat.reduceBEq,Nat.reduceAdd,Nat.reduceLT,Nat.reduceLeDiff,Nat.reduceEqDiff,reduceIte,if_true,if_false,C8,C9,DA,DB,DC,DD,DE,DF,DG,DH,DI,DJ,Am.unOp,ret1,pubL,pub,pubA,B7,wkZ,wk,BE,Cc,Af,BF,AOp.cls,Nat.beq_eq,Bool.or_eq_true,decide_true,decide_false,beq_self_eq_true,Bool.true_or,Bool.or_true,true_and,and_true,lenA,eqv,eqB,eqP,scal,AQ,List.getElem?_cons_zero,List.getElem?_cons_succ,DK,DL,Dm,updM,FO,FP,FQ,Int.reduceEq,ret1,Ch,B9,reduceCtorEq,Bool.xor_true,Bool.xor_false,Bool.false_eq_true,List.all_cons,List.all_nil,noTok,Bool.and_self,Bool.and_true,Bool.true_and]
   refine ⟨0,_,by omega,rfl,rfl,by omega,rfl⟩
structure Small (x:VV) (ps:List PP):Prop where
 n:x.names.length < 20000
 w:x.values.length < 20000
 a:x.args.length < 20000
 cnt:ps.length≤200
 tx:∀ p∈ps,p.text.length < 20000
 vx:∀ l∈x.values,l.length < 20000
 ax:∀ l∈x.args,l.length < 20000
theorem Pd {x:VV} {ps:List PP} (h:Ha x ps=false):Small x ps:=by
 simp only [Ha,Bool.or_eq_false_iff,decide_eq_false_iff_not] at h
 obtain ⟨h1,h2⟩:=h
 have h1:Io x ps < 20000:=by omega
 have k:=HZ ps _ h1
 have e:Ej (textsF 0 x.names+textsF 0 x.values+textsF 0 x.args) ps=Io x ps:=rfl
 rw [e] at k
 have a1:=EN x.names 0 (by omega)
 have a2:=EN x.values 0 (by omega)
 have a3:=EN x.args 0 (by omega)
 have b1:=Jv List.length x.names
 have b2:=Jv List.length x.values
 have b3:=Jv List.length x.args
 refine ⟨by omega,by omega,by omega,by omega,fun p hp=>?_,fun l hl=>?_,fun l hl=>?_⟩
 · have:=Jw (fun p:PP=>p.text.length+1) hp
   omega
 · have:=Jw (fun l:List Nat=>l.length+1) hl
   omega
 · have:=Jw (fun l:List Nat=>l.length+1) hl
   omega
theorem OH (x:VV) (hx:x.Ok) (s:St):(lim prog).call BV [x.av,.nsl] s=some (.b (Ha x []),s):=by
 have:=Ll (args:=[x.av,.nsl]) (args':=[x.av,K3 []]) (s:=s) Cz rfl rfl rfl (by simp [A9,wkZ,wk,wkM])
 rw [this]
 exact Pc x hx [] (by simp) s
theorem RO {s:St} {T:Nat} {a b c d:AV} {id:Nat} (h:s.box? id=some (.cells T [a,b,c,d])) (x y z u:AV) (h1:ones [x,y,z,u]=true) (h2:AV.refs.go [x,y,z,u]=false):stA s 4 (.p id 0) (.agg [x,y,z,u])=some (s.setBox id (.cells T [x,y,z,u])):=by
 simp [stA,h,AV.cells,over,h1,esc,AV.refs,h2]
theorem RQ (a b c d x:AV):over [a,b,c,d] 0 [x]=some [x,b,c,d]:=rfl
theorem RR (a b c d x:AV):over [a,b,c,d] 1 [x]=some [a,x,c,d]:=rfl
theorem RS (a b c d x:AV):over [a,b,c,d] 2 [x]=some [a,b,x,d]:=rfl
theorem RT (a b c d x:AV):over [a,b,c,d] 3 [x]=some [a,b,c,x]:=rfl
theorem RU (k:IntKind) (n:Int):(AV.i k n).cells=[.i k n]:=rfl
theorem Ip (A B:List (List Nat)) (hA:A.length < 2^63) (s:St):(lim prog).call A8 [tx A,tx B] s=some (.b (decide (A=B)),s):=by
 refine fn_W FB rfl rfl ?_
 simp only [BZ,go_sem,Ab,AK,AO,AP,Aa,KB_n,KB_x,Nat.reduceBEq,Nat.reduceAdd,Nat.reduceLT,Nat.reduceLeDiff,Nat.reduceEqDiff,reduceIte,Int.reduceEq,reduceCtorEq,List.length_map,Ag]
 by_cases hl:A.length=B.length
 · have hl':((A.length:Int)≠(B.length:Int))=False:=by simp [hl]
   simp only [go_sem,Ab,AK,AO,AP,Aa,KB_n,KB_x,Nat.reduceBEq,Nat.reduceAdd,Nat.reduceLT,Nat.reduceLeDiff,Nat.reduceEqDiff,reduceIte,Int.reduceEq,reduceCtorEq,hl',ne_eq,not_true_eq_false]
   refine FM (fun n e q=>q=s.enter∧e.get 0=tx A∧e.get 1=tx B∧∃ i:Nat,i+n=A.length∧e.get 5=.i .i64 i∧∀ (j:Nat) (hj:j < i) (hL:j < A.length),A[j]=B[j]'(by omega)) ?_ A.length _ _ ?_
   · rintro n e q ⟨rfl,h0,h1,i,hi,h5,hn⟩
     simp only [go_sem,Ab,AK,AO,AP,Aa,KB_n,KB_x,Nat.reduceBEq,Nat.reduceAdd,Nat.reduceLT,Nat.reduceLeDiff,Nat.reduceEqDiff,reduceIte,Int.reduceEq,reduceCtorEq,h0,h1,h5,List.length_map,Ag]
     refine MU (fun hlt=>?_) (fun hge=>?_)
     · have hlt:i < A.length:=by omega
       simp only [go_sem,Ab,AK,AO,AP,Aa,KB_n,KB_x,Nat.reduceBEq,Nat.reduceAdd,Nat.reduceLT,Nat.reduceLeDiff,Nat.reduceEqDiff,reduceIte,Int.reduceEq,reduceCtorEq,h0,h1,h5,Aq,Md hlt,Md (show i < B.length by omega),FE,J2,Bh (show i+1 < 2^63 by omega)]
       refine MU (fun hne=>?_) (fun heq=>?_)
       · exact AW (Over.enter s) rfl (by
          have:A≠B:=fun h=>hne (by subst h; rfl)
          simp [Af,wkZ,wk,this])
       · have heq:A[i]=B[i]'(by omega):=by simpa using heq
         refine ⟨n - 1,by omega,i+1,by omega,rfl,fun j hj hL=>?_⟩
         by_cases hji:j=i
         · subst hji; exact heq
         · exact hn j (by omega) hL
     · exact AW (Over.enter s) rfl (by
        have:A=B:=List.ext_getElem hl fun j h1 h2=>hn j (by omega) h1
        simp [Af,wkZ,wk,this])
   · simp only [go_sem,Ab,AK,AO,AP,Aa,KB_n,KB_x,Nat.reduceBEq,Nat.reduceAdd,Nat.reduceLT,Nat.reduceLeDiff,Nat.reduceEqDiff,reduceIte,Int.reduceEq,reduceCtorEq]
     exact ⟨0,by omega,rfl,fun j hj=>by omega⟩
 · have hl':((A.length:Int)≠(B.length:Int))=True:=by simp; omega
   simp only [go_sem,Ab,AK,AO,AP,Aa,KB_n,KB_x,Nat.reduceBEq,Nat.reduceAdd,Nat.reduceLT,Nat.reduceLeDiff,Nat.reduceEqDiff,reduceIte,Int.reduceEq,reduceCtorEq,hl']
   exact AW (Over.enter s) rfl (by
    have:A≠B:=fun h=>hl (by rw [h])
    simp [Af,wkZ,wk,this])
theorem RV (L:List (List Nat)):wk (.sl 1 .id) (tx L)=tx L:=by simp [wk,OF]
theorem RX (v:VV) (s:St) (hw:Wf s):(lim prog).call CK [v.av] s=some (v.av,s):=by
 refine fn_W Ff rfl rfl ?_
 obtain ⟨s1,hs1⟩:∃ s1,(s.enter.new (.cells 26 v.cells))=s1:=⟨_,rfl⟩
 have ov1:Over s s1:=by rw [← hs1]; exact (Over.enter s).new _
 have n1:s1.nb=s.nb+1:=by rw [← hs1]; rfl
 obtain ⟨s2,hs2⟩:∃ s2,s1.new (.cells 24 [.nsl,.nsl,.nsl,.i .i64 0])=s2:=⟨_,rfl⟩
 have b1:s2.box? s.nb=some (.cells 26 v.cells):=by
  rw [← hs2,D3 (by omega),← hs1]; exact AQ s.enter _
 have b2:s2.box? s1.nb=some (.cells 24 [.nsl,.nsl,.nsl,.i .i64 0]):=by rw [← hs2]; exact AQ s1 _
 have ov2:Over s s2:=by rw [← hs2]; exact ov1.new _
 have l0:=Ed (off:=0) (v:=tx v.names) b1 rfl
 have l1:=Ed (off:=1) (v:=tx v.values) b1 rfl
 have l2:=Ed (off:=2) (v:=tx v.args) b1 rfl
 have l3:=Ed (off:=3) (v:=.i .i64 v.status) b1 rfl
 have est:=RO (s:=s2) b2 (tx v.names) (tx v.values) (tx v.args) (.i .i64 v.status) rfl (by simp [AV.refs.go,AV.refs,OE])
 have ov3:=ov2.setBox (id:=s1.nb) (by omega) (by rw [← hs2]; show s1.nb < s1.nb+1; omega) (.cells 24 v.cells)
 have hnb:s.enter.nb=s.nb:=rfl
 have hs1':s.enter.new (.cells 26 [tx v.names,tx v.values,tx v.args,.i .i64 v.status])=s1:=hs1
 have cw:∀ L:List (List Nat),(tx L).cells=[tx L]:=fun _=>rfl
 have la:ldA (s2.setBox s1.nb (.cells 24 v.cells)) true 4 (.p s1.nb 0)=some v.av:=RN (T:=24) (by
  have w2:Wf s2:=by rw [← hs2,← hs1]; exact (hw.enter.new _).new _
  rw [setBox_box? w2.b (by rw [← hs2]; show s1.nb < s1.nb+1; omega),if_pos rfl])
 simp only [Bm,go_sem,Ab,AK,AO,AP,Aa,KB_n,KB_x,Nat.reduceBEq,Nat.reduceAdd,Nat.reduceLT,Nat.reduceLeDiff,Nat.reduceEqDiff,reduceIte,Int.reduceEq,reduceCtorEq,Gz,len4,hs1',hs2,hnb,l0,l1,l2,l3,Nat.zero_add,Cj,cw,RU,len1,RQ,RR,RS,RT,est,la,frzL,frz]
 refine AW ov3 ?_ ?_
 · simp [Af,AV.refs,AV.refs.go,OE]
 · have e1:=RV v.names
   have e2:=RV v.values
   have e3:=RV v.args
   simp only [wkZ,Af]
   rw [wk]
   simp only [wkZ,e1,e2,e3]
   rw [show wk .id (.i .i64 v.status)=.i .i64 v.status by rw [wk]]
theorem RY (v:VV) (hv:v.Ok) (s:St):(lim prog).call CJ [v.av,v.av] s=some (.b true,s):=by
 refine fn_W Fe rfl rfl ?_
 obtain ⟨s1,hs1⟩:∃ s1,(s.enter.new (.cells 24 v.cells))=s1:=⟨_,rfl⟩
 have ov1:Over s s1:=by rw [← hs1]; exact (Over.enter s).new _
 have n1:s1.nb=s.nb+1:=by rw [← hs1]; rfl
 obtain ⟨s2,hs2⟩:∃ s2,s1.new (.cells 24 v.cells)=s2:=⟨_,rfl⟩
 have b1:s2.box? s.nb=some (.cells 24 v.cells):=by
  rw [← hs2,D3 (by omega),← hs1]; exact AQ s.enter _
 have b2:s2.box? s1.nb=some (.cells 24 v.cells):=by rw [← hs2]; exact AQ s1 _
 have ov2:Over s s2:=by rw [← hs2]; exact ov1.new _
 have l0:=Ed (off:=0) (v:=tx v.names) b1 rfl
 have l1:=Ed (off:=1) (v:=tx v.values) b1 rfl
 have l2:=Ed (off:=2) (v:=tx v.args) b1 rfl
 have l3:=Ed (off:=3) (v:=.i .i64 v.status) b1 rfl
 have m0:=Ed (off:=0) (v:=tx v.names) b2 rfl
 have m1:=Ed (off:=1) (v:=tx v.values) b2 rfl
 have m2:=Ed (off:=2) (v:=tx v.args) b2 rfl
 have m3:=Ed (off:=3) (v:=.i .i64 v.status) b2 rfl
 have hnb:s.enter.nb=s.nb:=rfl
 have hs1':s.enter.new (.cells 24 [tx v.names,tx v.values,tx v.args,.i .i64 v.status])=s1:=hs1
 have hs2':s1.new (.cells 24 [tx v.names,tx v.values,tx v.args,.i .i64 v.status])=s2:=hs2
 have t0:=Ip v.names v.names hv.n s2
 have t1:=Ip v.values v.values hv.w s2
 have t2:=Ip v.args v.args hv.a s2
 simp only [decide_true] at t0 t1 t2
 simp only [Bl,go_sem,Ab,AK,AO,AP,Aa,KB_n,KB_x,Nat.reduceBEq,Nat.reduceAdd,Nat.reduceLT,Nat.reduceLeDiff,Nat.reduceEqDiff,reduceIte,Int.reduceEq,reduceCtorEq,Gz,len4,hs1',hs2',hnb,l0,l1,l2,l3,m0,m1,m2,m3,Nat.zero_add,t0,t1,t2,eq_self]
 exact AW ov2 rfl rfl

attribute [local irreducible] W WO WE WQ WD Tr.get Tr.set
def letR (c:Nat):Bool:=(decide (97≤c)&&decide (c≤122))||((decide (65≤c)&&decide (c≤90))||decide (c=95))
theorem OI:∀ c,c < 256→letR c=Bc c:=by decide
def nmB (c:Nat):Bool:=Bc c||Fz c
def GE:List Nat→Bool
 | []=>false
 | c::t=>decide (t.length < 64)&&(Bc c&&t.all nmB)
theorem JM:∀ (t:List Nat) (m:Nat),Ek m t=t.length↔(t.length≤m∧t.all nmB=true)
 | [],0=>by simp [Ek]
 | [],m+1=>by simp [Ek]
 | c::t,0=>by simp [Ek]
 | c :: t,m+1=>by
   have ih:=JM t m
   simp only [Ek,List.length_cons,List.all_cons,Bool.and_eq_true,nmB]
   cases h:(Bc c||Fz c) with
   | false=>simp
   | true =>
     simp only [if_true,true_and]
     constructor
     · intro h
       have:=ih.1 (by omega)
       exact ⟨by omega,this.2⟩
     · rintro ⟨h1,h2⟩
       have:=ih.2 ⟨by omega,h2⟩
       omega
theorem K7 (c:Nat) (t:List Nat):decide (leadN (c::t)=(c::t).length)=GE (c::t):=by
 have h:=JM t 63
 have e1:leadN (c::t)=if Bc c then 1+Ek 63 t else 0:=rfl
 rw [e1]
 simp only [GE]
 cases hl:Bc c with
 | false=>simp
 | true =>
   rw [Bool.eq_iff_iff]
   simp only [List.length_cons,if_true,Bool.and_eq_true,decide_eq_true_eq,Bool.true_and]
   constructor
   · intro h1
     have:=h.1 (by omega)
     exact ⟨by omega,this.2⟩
   · rintro ⟨h1,h2⟩
     have:=h.2 ⟨by omega,h2⟩
     omega
def spcR (c:Nat):Bool:=(decide (49≤c)&&decide (c≤57))||(decide (c=35)||decide (c=63))
theorem RZ (c:Nat) (hc:c < 256):decide ((0:Int)≤idxB c 0 parK)=spcR c:=by
 have:∀ c,c < 256→decide ((0:Int)≤idxB c 0 parK)=spcR c:=by decide
 exact this c hc
theorem Iq (c:Nat) (hc:c < 256) (s:St):(lim prog).call BN [.i .u8 (c:Nat)] s=some (.b (Bc c),s):=by
 rw [← OI c hc]
 refine fn_W Ei rfl rfl ?_
 have hb:∀ b,KR s [.id] (.b b) (some ([.b b],s.enter)):=fun b=>AW (Over.enter s) rfl rfl
 have e1:((97:Int)≤(c:Int))=(97≤c):=propext (by omega)
 have e2:((c:Int)≤122)=(c≤122):=propext (by omega)
 have e3:((65:Int)≤(c:Int))=(65≤c):=propext (by omega)
 have e4:((c:Int)≤90)=(c≤90):=propext (by omega)
 have e5:((c:Int)=95)=(c=95):=propext (by omega)
 unfold letR
 rcases Classical.propComplete (97≤c) with h1 | h1<;>rcases Classical.propComplete (c≤122) with h2 | h2<;>rcases Classical.propComplete (65≤c) with h3 | h3<;>rcases Classical.propComplete (c≤90) with h4 | h4<;>rcases Classical.propComplete (c=95) with h5 | h5 <;>
  (simp only [BO,go_sem,AI,AB,AD,AC,KB_n,KB_x,Nat.reduceBEq,Nat.reduceAdd,Nat.reduceLT,Nat.reduceLeDiff,Nat.reduceEqDiff,reduceIte,Int.reduceEq,reduceCtorEq,e1,e2,e3,e4,e5,h1,h2,h3,h4,h5,decide_true,decide_false,Bool.and_true,Bool.and_false,Bool.true_and,Bool.false_and,Bool.or_true,Bool.or_false,Bool.true_or,Bool.false_or]; exact hb _)
theorem M2 (c:Nat) (s:St):(lim prog).call Bx [.i .u8 (c:Nat)] s=some (.b (Fz c),s):=by
 refine fn_W FD rfl rfl ?_
 have hb:∀ b,KR s [.id] (.b b) (some ([.b b],s.enter)):=fun b=>AW (Over.enter s) rfl rfl
 have e1:((48:Int)≤(c:Int))=(48≤c):=propext (by omega)
 have e2:((c:Int)≤57)=(c≤57):=propext (by omega)
 unfold Fz
 by_cases h1:48≤c<;>by_cases h2:c≤57<;>(try omega) <;>
  (simp only [Ba,go_sem,AI,AB,AD,AC,KB_n,KB_x,Nat.reduceBEq,Nat.reduceAdd,Nat.reduceLT,Nat.reduceLeDiff,Nat.reduceEqDiff,reduceIte,Int.reduceEq,reduceCtorEq,e1,e2,h1,h2,decide_true,decide_false,Bool.and_true,Bool.and_false,Bool.true_and,Bool.false_and]; exact hb _)
theorem Pe {α:Type} {p:α→Bool} {l:List α} {i:Nat} {d:α} (h:l[i]? = some d):(l.take (i+1)).all p=((l.take i).all p&&p d):=by
 rw [List.take_add_one,h,List.all_append]
 simp
theorem M3 {α:Type} {p:α→Bool} {l:List α} {i:Nat} {d:α} (h:l[i]? = some d) (hd:p d=false):l.all p=false:=by
 rw [List.all_eq_false]
 exact ⟨d,List.mem_of_getElem? h,by simp [hd]⟩
theorem OJ (l:List Nat) (hl:Txt l) (s:St) (hw:Wf s):(lim prog).call CM [.s l] s=some (.b (GE l),s):=by
 refine fn_W Fh rfl rfl ?_
 have hlen:=hl.len
 have hz0:wkZ AZ.cin [.s l]=[.s l]:=by simp [AZ,wkZ,wk]
 rw [hz0]
 have hb:∀ b,KR s [.id] (.b b) (some ([.b b],s.enter)):=fun b=>AW (Over.enter s) rfl rfl
 cases l with
 | nil =>
   have e1:(([]:List Nat)=[])=True:=eq_true rfl
   simp only [AZ,go_sem,AI,AB,AD,AC,KB_n,KB_x,Nat.reduceBEq,Nat.reduceAdd,Nat.reduceLT,Nat.reduceLeDiff,Nat.reduceEqDiff,reduceIte,Int.reduceEq,reduceCtorEq,e1]
   exact hb _
 | cons c t =>
   have e1:((c::t)=[])=False:=by simp
   have hL:=Iq c (hl.lt c (by simp)) s.enter
   have n0:Bo (.i .i64 0)=some 0:=rfl
   have g0':(c::t)[0]? = some c:=rfl
   by_cases h64:t.length < 64
   · have e2 : ((64:Int) < (((c::t).length:Nat):Int))=False:=eq_false (by simp only [List.length_cons]; omega)
     cases hlc:Bc c with
     | false =>
       rw [hlc] at hL
       have hr:GE (c::t)=false:=by simp [GE,hlc]
       simp only [AZ,go_sem,AI,AB,AD,AC,KB_n,KB_x,Nat.reduceBEq,Nat.reduceAdd,Nat.reduceLT,Nat.reduceLeDiff,Nat.reduceEqDiff,reduceIte,Int.reduceEq,reduceCtorEq,e1,e2,n0,g0',hL]
       rw [hr]; exact hb _
     | true =>
       rw [hlc] at hL
       have hr:GE (c::t)=(c::t).all nmB:=by simp [GE,hlc,h64,nmB]
       obtain ⟨A,hA⟩:∃ A,(c::t).all nmB=A:=⟨_,rfl⟩
       rw [hr,hA]
       simp only [AZ,go_sem,AI,AB,AD,AC,KB_n,KB_x,Nat.reduceBEq,Nat.reduceAdd,Nat.reduceLT,Nat.reduceLeDiff,Nat.reduceEqDiff,reduceIte,Int.reduceEq,reduceCtorEq,e1,e2,n0,g0',hL]
       refine FM (fun x e q=>∃ i:Nat,i+x=(c::t).length∧((c::t).take i).all nmB=true∧q=s.enter∧e.get 0=.s (c::t)∧e.get 3=.i .i64 (i:Nat)) ?_ (c::t).length _ _ ?_
       · rintro x e q ⟨i,hix,hall,rfl,g0,g3⟩
         by_cases h:i < (c::t).length
         · have f1:((i:Int) < (((c::t).length:Nat):Int))=True:=eq_true (by omega)
           obtain ⟨d,hd⟩:∃ d,(c::t)[i]? = some d:=⟨_,List.getElem?_eq_getElem h⟩
           have hLd:=Iq d (hl.lt d (List.mem_of_getElem? hd)) s.enter
           have hDd:=M2 d s.enter
           have hw1:=Bh (show i+1 < 2^63 by omega)
           have hnx:nmB d=true→((c::t).take (i+1)).all nmB=true:=fun h=>by rw [Pe hd,hall,h]; rfl
           cases hld:Bc d with
           | true =>
             rw [hld] at hLd
             simp only [go_sem,AI,AB,AD,AC,KB_n,KB_x,Nat.reduceBEq,Nat.reduceAdd,Nat.reduceLT,Nat.reduceLeDiff,Nat.reduceEqDiff,reduceIte,Int.reduceEq,reduceCtorEq,g0,g3,f1,Aq,hd,hLd,hw1]
             exact ⟨x - 1,by omega,i+1,by omega,hnx (by simp [nmB,hld]),rfl⟩
           | false =>
             rw [hld] at hLd
             cases hdd:Fz d with
             | true =>
               rw [hdd] at hDd
               simp only [go_sem,AI,AB,AD,AC,KB_n,KB_x,Nat.reduceBEq,Nat.reduceAdd,Nat.reduceLT,Nat.reduceLeDiff,Nat.reduceEqDiff,reduceIte,Int.reduceEq,reduceCtorEq,g0,g3,f1,Aq,hd,hLd,hDd,hw1]
               exact ⟨x - 1,by omega,i+1,by omega,hnx (by simp [nmB,hdd]),rfl⟩
             | false =>
               rw [hdd] at hDd
               have hf:=M3 hd (show nmB d=false by simp [nmB,hld,hdd])
               simp only [go_sem,AI,AB,AD,AC,KB_n,KB_x,Nat.reduceBEq,Nat.reduceAdd,Nat.reduceLT,Nat.reduceLeDiff,Nat.reduceEqDiff,reduceIte,Int.reduceEq,reduceCtorEq,g0,g3,f1,Aq,hd,hLd,hDd]
               rw [← hA,hf]; exact hb _
         · have f1:((i:Int) < (((c::t).length:Nat):Int))=False:=eq_false (by omega)
           rw [List.take_of_length_le (by omega)] at hall
           simp only [go_sem,AI,AB,AD,AC,KB_n,KB_x,Nat.reduceBEq,Nat.reduceAdd,Nat.reduceLT,Nat.reduceLeDiff,Nat.reduceEqDiff,reduceIte,Int.reduceEq,reduceCtorEq,g0,g3,f1]
           rw [← hA,hall]; exact hb _
       · simp only [go_sem,AI,AB,AD,AC,KB_n,KB_x,Nat.reduceBEq,Nat.reduceAdd,Nat.reduceLT,Nat.reduceLeDiff,Nat.reduceEqDiff,reduceIte,Int.reduceEq,reduceCtorEq]
         exact ⟨0,by omega,by simp,rfl⟩
   · have e2:((64:Int) < (((c::t).length:Nat):Int))=True:=eq_true (by simp only [List.length_cons]; omega)
     have hr:GE (c::t)=false:=by simp [GE,h64]
     simp only [AZ,go_sem,AI,AB,AD,AC,KB_n,KB_x,Nat.reduceBEq,Nat.reduceAdd,Nat.reduceLT,Nat.reduceLeDiff,Nat.reduceEqDiff,reduceIte,Int.reduceEq,reduceCtorEq,e1,e2]
     rw [hr]; exact hb _
def one1:List Nat→Bool
 | [c]=>spcR c
 | _=>false
theorem Ra {l:List Nat} (h:l.length≠1):one1 l=false:=by
 match l,h with
 | [],_=>rfl
 | [c],h=>simp at h
 | c::d::t,_=>rfl
theorem K8 {l:List Nat} (hl:∀ c∈l,c < 256):F2 l=(one1 l||GE l):=by
 match l,hl with
 | [],_=>rfl
 | [c],hl =>
   have h:=K7 c []
   show (decide ((0:Int)≤idxB c 0 parK)||decide (leadN [c]=1))=(spcR c||GE [c])
   rw [RZ c (hl c (by simp)),← h]
   rfl
 | c::d::t,_ =>
   have h:=K7 c (d::t)
   show decide (leadN (c::d::t)=(c::d::t).length)=(false||GE (c::d::t))
   rw [h,Bool.false_or]
theorem M4 (l:List Nat) (hl:Txt l) (s:St) (hw:Wf s):(lim prog).call Bw [.s l] s=some (.b (F2 l),s):=by
 rw [K8 fun c hc=>hl.lt c hc]
 refine fn_W FC rfl rfl ?_
 have hz0:wkZ Ai.cin [.s l]=[.s l]:=by simp [Ai,wkZ,wk]
 rw [hz0]
 have hlen:=hl.len
 have hb:∀ b,KR s [.id] (.b b) (some ([.b b],s.enter)):=fun b=>AW (Over.enter s) rfl rfl
 have hN:=OJ l hl s.enter hw.enter
 by_cases h1:l.length=1
 · obtain ⟨c,rfl⟩:=List.length_eq_one_iff.1 h1
   have e0:(((([c]:List Nat).length:Nat):Int)=1)=True:=eq_true (by simp)
   have n0:Bo (.i .i64 0)=some 0:=rfl
   have g0':([c]:List Nat)[0]? = some c:=rfl
   have e1:((49:Int)≤(c:Int))=(49≤c):=propext (by omega)
   have e2:((c:Int)≤57)=(c≤57):=propext (by omega)
   have e3:((c:Int)=35)=(c=35):=propext (by omega)
   have e4:((c:Int)=63)=(c=63):=propext (by omega)
   have h0:one1 [c]=spcR c:=rfl
   rw [h0]
   simp only [spcR]
   rcases Classical.propComplete (49≤c) with h1 | h1<;>rcases Classical.propComplete (c≤57) with h2 | h2<;>rcases Classical.propComplete (c=35) with h3 | h3<;>rcases Classical.propComplete (c=63) with h4 | h4 <;>
    (simp only [Ai,go_sem,AI,AB,AD,AC,KB_n,KB_x,Nat.reduceBEq,Nat.reduceAdd,Nat.reduceLT,Nat.reduceLeDiff,Nat.reduceEqDiff,reduceIte,Int.reduceEq,reduceCtorEq,e0,n0,g0',e1,e2,e3,e4,h1,h2,h3,h4,hN,decide_true,decide_false,Bool.and_true,Bool.and_false,Bool.true_and,Bool.false_and,Bool.or_true,Bool.or_false,Bool.true_or,Bool.false_or]; exact hb _)
 · have e0:((l.length:Int)=1)=False:=eq_false (by omega)
   rw [Ra h1,Bool.false_or]
   simp only [Ai,go_sem,AI,AB,AD,AC,KB_n,KB_x,Nat.reduceBEq,Nat.reduceAdd,Nat.reduceLT,Nat.reduceLeDiff,Nat.reduceEqDiff,reduceIte,Int.reduceEq,reduceCtorEq,e0,hN]
   exact hb _
theorem Lm {c:Nat} {t:List Nat} (hl:∀ x∈c::t,x < 256):Dk (c::t)=(F2 (c::t)&&letR c):=by
 have hc:=hl c (by simp)
 rw [OI c hc]
 have k1:∀ c,c < 256→((spcR c||Bc c)&&(decide (c≠35)&&(decide (c≠63)&&(decide (c < 48)||decide (57 < c)))))=((spcR c||Bc c)&&Bc c):=by decide
 have k2:∀ c,c < 256→Bc c=true→(decide (c < 48)||decide (57 < c))=true:=by decide
 unfold Dk
 rw [K8 hl]
 cases t with
 | nil =>
   have e1:GE [c]=Bc c:=by simp [GE]
   have e2:one1 [c]=spcR c:=rfl
   rw [e1,e2,← k1 c hc]
   simp
 | cons d r =>
   have e2:one1 (c::d::r)=false:=rfl
   rw [e2,Bool.false_or]
   cases h:Bc c with
   | false =>
     have:GE (c::d::r)=false:=by simp [GE,h]
     rw [this]; rfl
   | true=>simp [k2 c hc h]
theorem M5 (l:List Nat) (hl:Txt l) (s:St) (hw:Wf s):(lim prog).call CL [.s l] s=some (.b (Dk l),s):=by
 refine fn_W Fg rfl rfl ?_
 have hz0:wkZ Ac.cin [.s l]=[.s l]:=by simp [Ac,wkZ,wk]
 rw [hz0]
 have hb:∀ b,KR s [.id] (.b b) (some ([.b b],s.enter)):=fun b=>AW (Over.enter s) rfl rfl
 have hP:=M4 l hl s.enter hw.enter
 cases l with
 | nil =>
   have e1:F2 []=false:=rfl
   rw [e1] at hP
   simp only [Ac,go_sem,AI,AB,AD,AC,KB_n,KB_x,Nat.reduceBEq,Nat.reduceAdd,Nat.reduceLT,Nat.reduceLeDiff,Nat.reduceEqDiff,reduceIte,Int.reduceEq,reduceCtorEq,hP]
   exact hb _
 | cons c t =>
   rw [Lm fun x hx=>hl.lt x hx]
   have n0:Bo (.i .i64 0)=some 0:=rfl
   have g0':(c::t)[0]? = some c:=rfl
   have e1:((97:Int)≤(c:Int))=(97≤c):=propext (by omega)
   have e2:((c:Int)≤122)=(c≤122):=propext (by omega)
   have e3:((65:Int)≤(c:Int))=(65≤c):=propext (by omega)
   have e4:((c:Int)≤90)=(c≤90):=propext (by omega)
   have e5:((c:Int)=95)=(c=95):=propext (by omega)
   cases hp:F2 (c::t) with
   | false =>
     rw [hp] at hP
     simp only [Ac,go_sem,AI,AB,AD,AC,KB_n,KB_x,Nat.reduceBEq,Nat.reduceAdd,Nat.reduceLT,Nat.reduceLeDiff,Nat.reduceEqDiff,reduceIte,Int.reduceEq,reduceCtorEq,hP]
     exact hb _
   | true =>
     rw [hp] at hP
     unfold letR
     rcases Classical.propComplete (97≤c) with h1 | h1<;>rcases Classical.propComplete (c≤122) with h2 | h2<;>rcases Classical.propComplete (65≤c) with h3 | h3<;>rcases Classical.propComplete (c≤90) with h4 | h4<;>rcases Classical.propComplete (c=95) with h5 | h5 <;>
      (simp only [Ac,go_sem,AI,AB,AD,AC,KB_n,KB_x,Nat.reduceBEq,Nat.reduceAdd,Nat.reduceLT,Nat.reduceLeDiff,Nat.reduceEqDiff,reduceIte,Int.reduceEq,reduceCtorEq,hP,n0,g0',e1,e2,e3,e4,e5,h1,h2,h3,h4,h5,decide_true,decide_false,Bool.and_true,Bool.and_false,Bool.true_and,Bool.false_and,Bool.or_true,Bool.or_false,Bool.true_or,Bool.false_or]; exact hb _)

def KKL (s:St) (t:Nat) (agg:Bool) (n:Nat) (Post:AV→St→Prop):Ex→Tr→St→Prop
 | .x _,_,_=>False
 | .n,e,s1=>∃ v,ldA s1 agg n (e.get t)=some v∧Post v { s1 with lo:=min s.lo s1.lo }
 | .r,e,s1=>∃ v,ldA s1 agg n (e.get t)=some v∧Post v { s1 with lo:=min s.lo s1.lo }
theorem KKL_r (s:St) (t:Nat) (agg:Bool) (n:Nat) (Post:AV→St→Prop) (e:Tr) (s1:St):KKL s t agg n Post .r e s1↔∃ v,ldA s1 agg n (e.get t)=some v∧Post v { s1 with lo:=min s.lo s1.lo }:=Iff.rfl
@[congr] theorem KKL_congr {s:St} {t:Nat} {agg:Bool} {n:Nat} {Post:AV→St→Prop} {x:Ex} {e e':Tr} {s1 s1':St} (h1:e=e') (h2:s1=s1'):KKL s t agg n Post x e s1=KKL s t agg n Post x e' s1':=by rw [h1,h2]
theorem fn_KL {prog:Nat→Option Fun} {f t n:Nat} {agg:Bool} {fn:Fun} {args:List AV} {s:St} {Post:AV→St→Prop} (hp:prog f=some fn) (hk:fn.keep=true) (hres:fn.res=[(t,some (agg,n))]) (hn:Nat.ble args.length fn.ntmps=true) (hb:both fn (wkZ fn.cin args)=none)
    (h:W (lim prog) fn.body (B7 0 (wkZ fn.cin args) .e) s.enter (KKL s t agg n Post)) (hpr:fn.prim=none:=by rfl):∃ r s',(lim prog).call f args s=some (r,s')∧Post r s':=by
 rw [Ez]
 unfold Fp
 simp only [hp,hpr,hn,hb]
 unfold Hd
 unfold W St.enter at h
 cases hc:evC (lim prog) fn.body (B7 0 (wkZ fn.cin args) .e) { s with lo:=s.nb } with
 | none=>rw [hc] at h; exact h.elim
 | some r =>
   obtain ⟨x,e,s1⟩:=r
   rw [hc] at h
   cases x with
   | x i=>exact h.elim
   | n=>obtain ⟨v,h1,h2⟩:=h; simp only [hk,hres,h1]; exact ⟨_,_,rfl,h2⟩
   | r=>obtain ⟨v,h1,h2⟩:=h; simp only [hk,hres,h1]; exact ⟨_,_,rfl,h2⟩
section
variable {s0 s q:St} {n:En} {R R0 R':List RA} {B B0 B':List (Nat×Box)}
theorem MW {α:Type} {P:α→α→Prop} (hs:∀ x y,P x y→P y x) {l:List α} (h:l.Pairwise P) {i j:Nat} {x y:α} (hne:i≠j) (hx:l[i]? = some x) (hy:l[j]? = some y):P x y:=by
 rw [List.pairwise_iff_getElem] at h
 obtain ⟨h1,rfl⟩:=List.getElem?_eq_some_iff.1 hx
 obtain ⟨h2,rfl⟩:=List.getElem?_eq_some_iff.1 hy
 rcases Nat.lt_or_gt_of_ne hne with hl | hl
 · exact h i j h1 h2 hl
 · exact hs _ _ (h j i h2 h1 hl)
theorem OK {α:Type} {P:α→α→Prop} {l:List α} (h:∀ {i j:Nat} {x y:α},i≠j→l[i]? = some x→l[j]? = some y→P x y):l.Pairwise P:=by
 rw [List.pairwise_iff_getElem]
 intro i j hi hj hl
 exact h (by omega) (List.getElem?_eq_getElem hi) (List.getElem?_eq_getElem hj)
theorem _root_.Go.Proofs.Ytfpoihibfajhlaa.Am.Hp.perm (H:Hp s0 s n R B) (hR:R.Perm R') (hB:B.Perm B'):Hp s0 s n R' B' where
 wf:=H.wf
 over:=H.over
 lo:=H.lo
 nb:=H.nb
 nt:=H.nt
 rows:=fun {i r} hr=>by
  have hm:=hR.symm.subset (List.mem_of_getElem? hr)
  obtain ⟨j,hj,rfl⟩:=List.mem_iff_getElem.1 hm
  exact H.rows (List.getElem?_eq_getElem hj)
 apart:=fun {i j r r' k} hne h1 h2 hk=>by
  have hp:R.Pairwise (fun r r'=>∀ k,Av r.a=some k→Av r'.a≠some k):=OK fun hne h1 h2 k hk=>H.apart hne h1 h2 hk
  have hs:∀ (r r':RA),(∀ k,Av r.a=some k→Av r'.a≠some k)→(∀ k,Av r'.a=some k→Av r.a≠some k):=fun r r' h k h1 h2=>h k h2 h1
  exact MW hs (hR.pairwise hp fun {x y} h=>hs x y h) hne h1 h2 k hk
 box:=fun {i p} hp=>by
  have hm:=hB.symm.subset (List.mem_of_getElem? hp)
  obtain ⟨j,hj,rfl⟩:=List.mem_iff_getElem.1 hm
  exact H.box (List.getElem?_eq_getElem hj)
 bapart:=fun {i j p q} hne h1 h2=>by
  have hp:B.Pairwise (fun p q=>p.1≠q.1):=OK fun hne h1 h2=>H.bapart hne h1 h2
  exact MW (P:=fun p q:Nat×Box=>p.1≠q.1) (fun p q h e=>h e.symm) (hB.pairwise hp fun {x y} h e=>h e.symm) hne h1 h2
theorem _root_.Go.Proofs.Ytfpoihibfajhlaa.Am.Hp.back (H0:Hp s0 s n R0 B0) (H:Hp s0 q s.en R B):Hp s0 { q with lo:=min s.lo q.lo } n R B where
 wf:=H.wf.lo _
 over:=H.over.setLo (by have:=H0.over.lo; have:=H.over.lo; omega)
 lo:=by have:=H0.lo; simp only; omega
 nb:=by have h1:=H0.nb; have h2:=H.nb; simp only [St.en] at h2 ⊢; omega
 nt:=by have h1:=H0.nt; have h2:=H.nt; simp only [St.en] at h2 ⊢; omega
 rows:=fun h=>(H.rows h).mono (Nat.le_refl _) fun _ _=>rfl
 apart:=H.apart
 box:=H.box
 bapart:=H.bapart
end
def KA (a:AV) (L:List (List Nat)):Prop:=(∃ id,L≠[]∧a=.bl id 1 0 L.length (L.length,false))∨(L=[]∧(a=.sl 1 [] .full∨a=.ws false 1 []))
def kb (a:AV) (L:List (List Nat)):List (Nat×Box):=match a with
 | .bl id _ _ _ _=>[(id,.row 9 (L.map .s) false 0)]
 | _=>[]
theorem KA.cell {a:AV} {L:List (List Nat)} (h:KA a L):a.cells=[a]∧(∀ l,ones (a::l)=ones l)∧(∀ s,Am.pub s a=some (a,s))∧(∀ s,lenA s 1 a=some (.i .i64 (L.length:Nat)))∧noTok a=true∧(∀ s,ldR s (some a)=some (a,s)):=by
 rcases h with ⟨id,h0,rfl⟩ | ⟨rfl,rfl | rfl⟩
 · exact ⟨rfl,fun _=>rfl,fun _=>rfl,fun _=>rfl,rfl,fun _=>rfl⟩
 · exact ⟨rfl,fun _=>rfl,fun _=>rfl,fun _=>rfl,rfl,fun _=>rfl⟩
 · exact ⟨rfl,fun _=>rfl,fun _=>rfl,fun _=>rfl,rfl,fun _=>rfl⟩
theorem KA.wk {a:AV} {L:List (List Nat)} (h:KA a L):KA (Am.wk (.sl 1 .id) a) L∧kb (Am.wk (.sl 1 .id) a) L=kb a L:=by
 rcases h with ⟨id,h0,rfl⟩ | ⟨rfl,rfl | rfl⟩
 · simp only [Am.wk]; exact ⟨.inl ⟨id,h0,rfl⟩,trivial⟩
 · have:Am.wk (.sl 1 .id) (.sl 1 [] .full)=.ws false 1 []:=by simp [Am.wk,wkM]
   rw [this]; exact ⟨.inr ⟨rfl,.inr rfl⟩,rfl⟩
 · have:Am.wk (.sl 1 .id) (.ws false 1 [])=.ws false 1 []:=by simp [Am.wk]
   rw [this]; exact ⟨.inr ⟨rfl,.inr rfl⟩,rfl⟩
theorem Ln {s0 s:St} {n:En} {B:List (Nat×Box)} (H:Hp s0 s n [] B) (L:List (List Nat)) (hL:L.length < 2^38) :
    ∃ a s',Oh s 1 9 (.sl 1 [] .full) (tx L)=some (a,s')∧KA a L∧Hp s0 s' n [] (kb a L++B):=by
 cases L with
 | nil=>exact ⟨.sl 1 [] .full,s,rfl,.inr ⟨rfl,.inl rfl⟩,H⟩
 | cons x t =>
   obtain ⟨a2,q2,d2,H2,n2,p2⟩:=H.appN (es:=1) 9 (a:=.sl 1 [] .full) (xs:=[]) (y:=tx (x::t)) (ys:=(x::t).map .s) (.inr (.inr (.inl rfl))) (by simp [elems]) (by simp at hL ⊢; omega)
   have p2:=p2 (by simp)
   rw [List.nil_append] at H2
   obtain ⟨q3,d3,H3,n3⟩:=H2.thaw 0 rfl p2.1 [] (by simp) (by simp)
   rw [LR] at H3
   rw [List.length_map,Nat.mul_one] at d3
   refine ⟨.bl q2.nb 1 0 (x::t).length ((x::t).length,false),q3,?_,.inl ⟨_,by simp,rfl⟩,H3⟩
   unfold Oh
   rw [d2]
   exact d3
theorem Rb (v:VV) (h1:v.names.length < 2^38) (h2:v.values.length < 2^38) (h3:v.args.length < 2^38) {s0 s:St} {m:En} {B:List (Nat×Box)} (H:Hp s0 s m [] B) :
    ∃ a b c s',(lim prog).call Bv [v.av] s=some (.agg [a,b,c,.i .i64 v.status],s')∧KA a v.names∧KA b v.values∧KA c v.args∧Hp s0 s' m [] (kb c v.args++(kb b v.values++(kb a v.names++B))):=by
 have hz0:wkZ Au.cin [v.av]=[v.av]:=by
  simp only [Au,wkZ,wk,OF]
 obtain ⟨r,s',hc,a,b,c,rfl,hP⟩:=fn_KL (t:=2) (agg:=true) (n:=4) (s:=s) (args:=[v.av]) (Post:=fun r s'=>∃ a b c,r=.agg [a,b,c,.i .i64 v.status]∧KA a v.names∧KA b v.values∧KA c v.args∧Hp s0 s' m [] (kb c v.args++(kb b v.values++(kb a v.names++B)))) E9 rfl rfl rfl (by rw [hz0]; rfl) (by
  rw [hz0]
  have H1:=(H.enter.new (.cells 24 v.cells)).new (.cells 26 noV0)
  have hz:noV0=[.nsl,.nsl,.nsl,.i .i64 0]:=rfl
  rw [Ch] at H1
  generalize hq:(s.enter.new (.cells 24 v.cells)).new (.cells 26 noV0)=q at H1
  rw [hz] at hq H1
  generalize hm:s.enter.nb=k at H1
  obtain ⟨a,q1,d1,ka,H2⟩:=Ln H1 v.names h1
  obtain ⟨b,q2,d2,kb',H3⟩:=Ln H2 v.values h2
  obtain ⟨c,q3,d3,kc,H4⟩:=Ln H3 v.args h3
  have P1:∀ {q:St} {X:List (Nat×Box)},Hp s0 q s.en [] (X++((k+1,.cells 26 [.nsl,.nsl,.nsl,.i .i64 0])::(k,.cells 24 v.cells)::B))→Hp s0 q s.en [] ((k,.cells 24 v.cells)::(k+1,.cells 26 [.nsl,.nsl,.nsl,.i .i64 0])::(X++B)):=fun {q X} h=>by
   refine h.perm (.refl _) ?_
   refine (List.perm_append_comm (l₁:=X)).trans ?_
   exact (List.Perm.swap _ _ _).trans (((List.perm_append_comm (l₁:=B)).cons _).cons _)
  have A0:=P1 (X:=[]) H1
  have A1:=P1 H2
  have A2:=P1 (X:=kb b v.values++kb a v.names) (by rw [List.append_assoc]; exact H3)
  have A3:=P1 (X:=kb c v.args++(kb b v.values++kb a v.names)) (by rw [List.append_assoc,List.append_assoc]; exact H4)
  have n0:ldA q false 1 (.p k 0)=some (tx v.names):=A0.ld 0 rfl rfl
  have w0:ldA q false 1 (.p k 1)=some (tx v.values):=A0.ld 0 rfl rfl
  have w1:ldA q1 false 1 (.p k 1)=some (tx v.values):=A1.ld 0 rfl rfl
  have g0:ldA q false 1 (.p k 2)=some (tx v.args):=A0.ld 0 rfl rfl
  have g1:ldA q1 false 1 (.p k 2)=some (tx v.args):=A1.ld 0 rfl rfl
  have g2:ldA q2 false 1 (.p k 2)=some (tx v.args):=A2.ld 0 rfl rfl
  have t0:ldA q false 1 (.p k 3)=some (.i .i64 v.status):=A0.ld 0 rfl rfl
  have t1:ldA q1 false 1 (.p k 3)=some (.i .i64 v.status):=A1.ld 0 rfl rfl
  have t2:ldA q2 false 1 (.p k 3)=some (.i .i64 v.status):=A2.ld 0 rfl rfl
  have t3:ldA q3 false 1 (.p k 3)=some (.i .i64 v.status):=A3.ld 0 rfl rfl
  have hal0:AY 1 []=true:=rfl
  obtain ⟨ca,oa,pa,la,na,ra⟩:=ka.cell
  obtain ⟨cb,ob,pb,lb,nb,rb⟩:=kb'.cell
  obtain ⟨cc,oc,pc,lc,nc,rc⟩:=kc.cell
  obtain ⟨q4,d4,H5,_⟩:=A3.stw 1 (v:=.agg [a,b,c,.i .i64 v.status]) (m:=4) rfl rfl ⟨rfl,by show ones [a,b,c,.i .i64 v.status]=true; rw [oa,ob,oc]; rfl⟩
  have lw:=H5.ldw 1 (m:=4) rfl rfl
  simp only [Au,go_sem,AI,AB,AD,AC,KB_n,KB_x,Nat.reduceBEq,Nat.reduceAdd,Nat.reduceLT,Nat.reduceLeDiff,Nat.reduceEqDiff,reduceIte,Int.reduceEq,reduceCtorEq,hq,hm]
  refine Ij rfl ?_
  simp only [go_sem,AI,AB,AD,AC,KB_n,KB_x,Nat.reduceBEq,Nat.reduceAdd,Nat.reduceLT,Nat.reduceLeDiff,Nat.reduceEqDiff,reduceIte,Int.reduceEq,reduceCtorEq,n0,w1,g2,t3,hal0,d1,d2,d3,ca,cb,cc,pa,pb,pc,na,nb,nc,d4,Nat.zero_add]
  refine Kz rfl ?_ (by exact MV v.values) ⟨⟨_,rfl,w1⟩,⟨_,rfl,w0⟩,⟨_,rfl,w1⟩,⟨_,rfl,w1⟩,⟨_,rfl,w1⟩,trivial⟩ (Kz rfl ?_ (by exact MV v.args) ⟨⟨_,rfl,g2⟩,⟨_,rfl,g0⟩,⟨_,rfl,g1⟩,⟨_,rfl,g1⟩,⟨_,rfl,g1⟩,⟨_,rfl,g1⟩,⟨_,rfl,g2⟩,⟨_,rfl,g2⟩,⟨_,rfl,g2⟩,trivial⟩ (Kz rfl ?_ (Lj _ _) ⟨⟨_,rfl,t3⟩,⟨_,rfl,t0⟩,⟨_,rfl,t1⟩,⟨_,rfl,t1⟩,⟨_,rfl,t1⟩,⟨_,rfl,t1⟩,⟨_,rfl,t2⟩,⟨_,rfl,t2⟩,⟨_,rfl,t2⟩,⟨_,rfl,t2⟩,⟨_,rfl,t3⟩,⟨_,rfl,t3⟩,trivial⟩ (Ik ?_)))
  · simp only [go_sem,AI,AB,AD,AC,KB_n,KB_x,Nat.reduceBEq,Nat.reduceAdd,Nat.reduceLT,Nat.reduceLeDiff,Nat.reduceEqDiff,reduceIte,Int.reduceEq,reduceCtorEq]
  · simp only [go_sem,AI,AB,AD,AC,KB_n,KB_x,Nat.reduceBEq,Nat.reduceAdd,Nat.reduceLT,Nat.reduceLeDiff,Nat.reduceEqDiff,reduceIte,Int.reduceEq,reduceCtorEq]
  · simp only [go_sem,AI,AB,AD,AC,KB_n,KB_x,Nat.reduceBEq,Nat.reduceAdd,Nat.reduceLT,Nat.reduceLeDiff,Nat.reduceEqDiff,reduceIte,Int.reduceEq,reduceCtorEq]
  simp only [go_sem,AI,AB,AD,AC,KB_n,KB_x,Nat.reduceBEq,Nat.reduceAdd,Nat.reduceLT,Nat.reduceLeDiff,Nat.reduceEqDiff,reduceIte,Int.reduceEq,reduceCtorEq,KKL_r]
  refine ⟨_,lw,a,b,c,rfl,ka,kb',kc,?_⟩
  have H6:=H.back (H5.dropB.dropB)
  rw [List.append_assoc,List.append_assoc] at H6
  exact H6)
 exact ⟨a,b,c,s',hc,hP⟩
end Go.Proofs.Ytfpoihibfajhlaa

namespace Go.Proofs.Ytfpoihibfajhlaa
open Go.Proofs.Ytfpoihibfajhlaa.Am
attribute [local irreducible] W WO WE WQ WD Tr.get Tr.set
theorem Pf {s q:St} (h:Over s q) {id:Nat} (hid:id < s.nb):q.box? id=s.box? id:=by
 have h1:=h.nb
 have e1:Nat.blt id q.nb=true:=by rw [Nat.blt_eq]; omega
 have e2:Nat.blt id s.nb=true:=by rw [Nat.blt_eq]; exact hid
 simp only [St.box?,e1,e2,cond_true,← h.boxes,List.getElem?_drop]
 congr 1
 omega
def KB (s:St) (a:AV) (L:List (List Nat)):Prop:=(L≠[]∧∃ id,a=.bl id 1 0 L.length (L.length,false)∧s.box? id=some (.row 9 (L.map .s) false 0)∧id < s.nb)∨(L=[]∧a=.ws false 1 [])
section
variable {s q:St} {a:AV} {L:List (List Nat)}
theorem KB.over (h:KB s a L) (ov:Over s q):KB q a L:=by
 rcases h with ⟨h0,id,rfl,h1,h2⟩ | h
 · exact .inl ⟨h0,id,rfl,by rw [Pf ov h2]; exact h1,by have:=ov.nb; omega⟩
 · exact .inr h
theorem KB.cell (h:KB s a L):a.cells=[a]∧(∀ l,ones (a::l)=ones l)∧(∀ s,Am.pub s a=some (a,s))∧(∀ s,lenA s 1 a=some (.i .i64 (L.length:Nat)))∧noTok a=true∧(∀ s,ldR s (some a)=some (a,s))∧ldQ (some a)=true:=by
 rcases h with ⟨_,id,rfl,_⟩ | ⟨rfl,rfl⟩
 · exact ⟨rfl,fun _=>rfl,fun _=>rfl,fun _=>rfl,rfl,fun _=>rfl,rfl⟩
 · exact ⟨rfl,fun _=>rfl,fun _=>rfl,fun _=>rfl,rfl,fun _=>rfl,rfl⟩
theorem KB.wk (h:KB s a L):Am.wk (.sl 1 .id) a=a:=by
 rcases h with ⟨_,id,rfl,_⟩ | ⟨rfl,rfl⟩<;>simp [Am.wk]
theorem KB.rd (h:KB s a L) {j:Nat} {y:List Nat} (hy:(L.map AV.s)[j]? = some (.s y)) (hj:j < L.length):∃ id,a=.bl id 1 0 L.length (L.length,false)∧ldA s false 1 (.p id j)=some (.s y):=by
 rcases h with ⟨_,id,rfl,h1,h2⟩ | ⟨rfl,rfl⟩
 · refine ⟨id,rfl,?_⟩
   have hcut:cut (L.map AV.s) j 1=some [.s y]:=by
    unfold cut
    have:((L.map AV.s).drop j).take 1=[.s y]:=by
     rw [List.take_one,List.head?_drop,hy]; rfl
    simp [this]
   simp only [ldA,St.cells?,h1,hcut,scal]
 · simp at hj
theorem K9:∀ {n:Nat} {l:List AV},l.length=n→Es 1 n l=l
 | 0,[],_=>rfl
 | n+1,a::l,h=>by
   simp only [List.length_cons,Nat.add_right_cancel_iff] at h
   rw [Es,if_pos rfl,List.take_succ_cons,List.take_zero,List.drop_succ_cons,List.drop_zero,K9 h]
   rfl
theorem LA:∀ L:List (List Nat),ones (L.map AV.s)=true
 | []=>rfl
 | x::L=>by
   simp only [List.map_cons,ones]
   exact LA L
theorem KB.elems (h:KB s a L):elems s 1 a=some (L.map .s):=by
 rcases h with ⟨_,id,rfl,h1,h2⟩ | ⟨rfl,rfl⟩
 · have h3:rowB s id 0 (L.length*1)=some (L.map AV.s):=by
    unfold rowB St.cells?
    rw [h1]
    show cut (L.map AV.s) 0 (L.length*1)=some (L.map AV.s)
    unfold cut
    rw [List.drop_zero,Nat.mul_one,List.take_of_length_le (by simp)]
    simp
   simp only [Am.elems,h3,and_self,Nat.le_refl,if_true,LA]
   rw [K9 (by simp)]
 · rfl
theorem Pg {id:Nat} (hb:s.box? id=some (.row 9 (L.map .s) false 0)) (hid:id < s.nb) (h0:L≠[]) (hL:L.length < 2^38) :
    (lim prog).call AN [.bl id 1 0 L.length (L.length,false)] s=some (.sl 1 (L.map .s) (.tok s.nt 0),{ s.newTok L.length (some 9) with lo:=min s.lo s.nb }):=by
 have h1:wkZ AJ.cin [.bl id 1 0 L.length (L.length,false)]=[.bl id 1 0 L.length (L.length,false)]:=by
  simp only [AJ,wkZ,Am.wk]
 obtain ⟨r,s',hc,rfl,rfl⟩:=fn_K (t:=2) (s:=s) (args:=[.bl id 1 0 L.length (L.length,false)]) (Post:=fun r s'=>r=.sl 1 (L.map .s) (.tok s.nt 0)∧s'={ s.newTok L.length (some 9) with lo:=min s.lo s.nb }) Bb rfl rfl rfl (by rw [h1]; rfl) (by
  rw [h1]
  have heq:eqS (.bl id 1 0 L.length (L.length,false)) .nsl=some false:=rfl
  have hK:KB s.enter (.bl id 1 0 L.length (L.length,false)) L:=.inl ⟨h0,id,rfl,hb,hid⟩
  have he:=hK.elems
  have ha:appA s.enter 1 9 (.sl 1 [] .full) (.bl id 1 0 L.length (L.length,false))=some (.sl 1 (L.map .s) (.tok s.nt 0),s.enter.newTok L.length (some 9)):=by
   obtain ⟨x,t,rfl⟩:∃ x t,L=x::t:=by
    cases L with
    | nil=>exact absurd rfl h0
    | cons x t=>exact ⟨x,t,rfl⟩
   simp only [List.map_cons,List.length_cons] at he ⊢
   simp only [appA,he,if_true,List.nil_append,List.length_nil,Nat.zero_add,true_and,List.length_cons,List.length_map]
   rw [if_pos (by simpa using hL)]
   simp [St.enter]
  have hal:AY 1 []=true:=rfl
  simp only [AJ,go_sem,AI,AB,AD,AC,KB_n,KB_x,Nat.reduceBEq,Nat.reduceAdd,Nat.reduceLT,Nat.reduceLeDiff,Nat.reduceEqDiff,reduceIte,Int.reduceEq,reduceCtorEq,heq,hal,le11s,ha,KK_n,KK_r]
  rfl)
 exact hc
theorem MX {s0:St} {n:En} {R:List RA} {B:List (Nat×Box)} (H:Hp s0 s n R B) (h:KB s a L) (hL:L.length < 2^38) :
    ∃ r s',(lim prog).call AN [a] s=some (r,s')∧Hp s0 s' n (⟨1,9,r,L.map .s,true⟩::R) B∧s'.nb=s.nb:=by
 rcases h with ⟨h0,id,rfl,h1,h2⟩ | ⟨rfl,rfl⟩
 · refine ⟨_,_,Pg h1 h2 h0 hL,?_,rfl⟩
   have hlo:=H.lo
   have h1:=H.over.lo
   have h2:=H.over.nb
   have:=H.newTok 1 9 (L.map .s)
   rw [List.length_map] at this
   exact this.setLo (m:=min s.lo s.nb) (by omega) (by omega)
 · exact Pb H [] (by simp)
theorem OL {s0:St} {n:En} {R:List RA} {B:List (Nat×Box)} (H:Hp s0 s n R B) (h:KB s a L) (hL:L.length < 2^38) :
    ∃ r s1 a' s',(lim prog).call AN [a] s=some (r,s1)∧LN false s1 r=some (a',s')∧Cs 1 a' (L.map .s)∧Hp s0 s' n R B∧s'.nb=s.nb:=by
 obtain ⟨r,s1,h1,H1,e1⟩:=MX H h hL
 obtain ⟨a',s',h2,h3,H2,e2⟩:=H1.pub 0 rfl
 refine ⟨r,s1,a',s',h1,Ou h2 h3 (KZ _ (fun _=>rfl) _),h3,?_,by omega⟩
 exact H2.dropR
theorem Ph (h:KB s a L) (l:List Nat) (hL:L.length < 2^63):(lim prog).call Az [a,.s l] s=some (.i .i64 (idxL l L),s):=by
 rcases h with ⟨h0,id,rfl,h1,h2⟩ | ⟨rfl,rfl⟩
 rotate_left
 · exact Pl [] l (by simp) s
 refine fn_W CU rfl rfl ?_
 have hz0:wkZ AX.cin [.bl id 1 0 L.length (L.length,false),.s l]=[.bl id 1 0 L.length (L.length,false),.s l]:=by
  simp only [AX,wkZ,Am.wk]
 rw [hz0]
 have hK:KB s.enter (.bl id 1 0 L.length (L.length,false)) L:=.inl ⟨h0,id,rfl,h1,h2⟩
 simp only [AX,go_sem,AI,AB,AD,AC,KB_n,KB_x,Nat.reduceBEq,Nat.reduceAdd,Nat.reduceLT,Nat.reduceLeDiff,Nat.reduceEqDiff,reduceIte,Int.reduceEq,reduceCtorEq]
 refine FM (fun n e s1=>s1=s.enter∧e.get 0=.bl id 1 0 L.length (L.length,false)∧e.get 1=.s l∧e.get 7=.i .i64 (L.length:Nat)∧∃ i:Nat,i+n=L.length∧e.get 8=.i .i64 (i:Nat)∧∀ (j:Nat) (hj:j < i) (hL:j < L.length),L[j]≠l) ?_ L.length _ _ ?_
 · rintro n e s1 ⟨rfl,g0,g1,g7,i,hi,g8,hn⟩
   by_cases hlt:i < L.length
   · have e1:((i:Int) < (L.length:Int))=True:=eq_true (by omega)
     have e2:(i < L.length)=True:=by simp [hlt]
     obtain ⟨id',hid',hrd⟩:=hK.rd (j:=i) (y:=L[i]) (by rw [List.getElem?_map,List.getElem?_eq_getElem hlt]; rfl) hlt
     cases hid'
     have hw1:=Bh (show i+1 < 2^63 by omega)
     by_cases h5:l=L[i]
     · have e3:(l=L[i])=True:=by simp [h5]
       simp only [go_sem,AI,AB,AD,AC,KB_n,KB_x,Nat.reduceBEq,Nat.reduceAdd,Nat.reduceLT,Nat.reduceLeDiff,Nat.reduceEqDiff,reduceIte,Int.reduceEq,reduceCtorEq,g0,g1,g7,g8,e1,Aq,e2,Nat.zero_add,Nat.mul_one,hrd,e3]
       exact AW (Over.enter s) rfl (by simp only [Af,wkZ,Am.wk,J3 hlt h5.symm (fun j hj=>hn j hj (by omega))])
     · have e3:(l=L[i])=False:=by simp [h5]
       simp only [go_sem,AI,AB,AD,AC,KB_n,KB_x,Nat.reduceBEq,Nat.reduceAdd,Nat.reduceLT,Nat.reduceLeDiff,Nat.reduceEqDiff,reduceIte,Int.reduceEq,reduceCtorEq,g0,g1,g7,g8,e1,Aq,e2,Nat.zero_add,Nat.mul_one,hrd,e3,hw1]
       refine ⟨n - 1,by omega,i+1,by omega,rfl,fun j hj hjL=>?_⟩
       by_cases hji:j=i
       · subst hji; exact fun hh=>h5 hh.symm
       · exact hn j (by omega) hjL
   · have e1:((i:Int) < (L.length:Int))=False:=eq_false (by omega)
     simp only [go_sem,AI,AB,AD,AC,KB_n,KB_x,Nat.reduceBEq,Nat.reduceAdd,Nat.reduceLT,Nat.reduceLeDiff,Nat.reduceEqDiff,reduceIte,Int.reduceEq,reduceCtorEq,g0,g1,g7,g8,e1]
     exact AW (Over.enter s) rfl (by simp only [Af,wkZ,Am.wk,LC (fun j hj=>hn j (by omega) hj)])
 · simp only [go_sem,AI,AB,AD,AC,KB_n,KB_x,Nat.reduceBEq,Nat.reduceAdd,Nat.reduceLT,Nat.reduceLeDiff,Nat.reduceEqDiff,reduceIte,Int.reduceEq,reduceCtorEq]
   exact ⟨0,by omega,rfl,fun j hj=>by omega⟩
end
theorem set_K (v:VV) (hv:v.Ok) {a b c:AV} (hn:v.names.length+1 < 2^38) (ha:v.args.length < 2^38) (name value:List Nat) (hnm:Txt name) (hvn:∀ l∈v.names,Txt l) (hl2:name.length < 2^62) (s:St) (hw:Wf s) (ka:KB s a v.names) (kb:KB s b v.values) (kc:KB s c v.args) :
    (lim prog).call EM [.agg [a,b,c,.i .i64 v.status],.s name,.s value] s=some (.tup [(setR v name value).av,.i .i64 (setE name value:Nat)],s):=by
 refine fn_W HY rfl rfl ?_
 have hz0:wkZ BL.cin [.agg [a,b,c,.i .i64 v.status],.s name,.s value]=[.agg [a,b,c,.i .i64 v.status],.s name,.s value]:=by
  simp only [BL,wkZ,wk,ka.wk,kb.wk,kc.wk]
 rw [hz0]
 obtain ⟨ca,oa,pa,la',na,ra,qa⟩:=ka.cell
 obtain ⟨cb,ob,pb,lb',nb,rb,qb⟩:=kb.cell
 obtain ⟨cc,oc,pc,lc',nc,rc,qc⟩:=kc.cell
 have hones:ones [a,b,c,.i .i64 v.status]=true:=by rw [oa,ob,oc]; rfl
 have hin:=OQ name hnm hl2
 have hall:∀ l∈v.names++[name],∀ n∈l,n < 256:=fun l hl=>by
  rcases List.mem_append.1 hl with hl | hl
  · exact (hvn l hl).lt
  · rw [List.mem_singleton.1 hl]; exact hnm.lt
 have H0:=Hp.begin hw
 have H1:=(H0.new (.cells 26 [a,b,c,.i .i64 v.status])).new (.cells 26 noV0)
 have hz:noV0=[.nsl,.nsl,.nsl,.i .i64 0]:=rfl
 rw [Ch] at H1
 generalize hq:(s.enter.new (.cells 26 [a,b,c,.i .i64 v.status])).new (.cells 26 noV0)=q at H1
 rw [hz] at hq H1
 generalize hm:s.enter.nb=m at H1
 have bad:∀ k:Nat,(∃ q2,stA q 4 (.p (m+1) 0) (.agg noV0)=some q2∧ldA q2 true 4 (.p (m+1) 0)=some (.agg noV0)∧KR s [(.agg [(.sl 1 .id),(.sl 1 .id),(.sl 1 .id),.id]),.id] (.tup [noV.av,.i .i64 (k:Nat)]) (some ([.agg noV0,.i .i64 (k:Nat)],q2))):=fun k=>by
  obtain ⟨q2,e1,H2,_⟩:=H1.stw 0 (v:=.agg noV0) (m:=4) rfl rfl ⟨rfl,rfl⟩
  exact ⟨q2,e1,H2.ldw 0 rfl rfl,AW H2.over rfl rfl⟩
 cases h1:Dk name with
 | false =>
   rw [h1] at hin
   obtain ⟨q2,e1,e2,e3⟩:=bad 1
   rw [hz] at e1 e2 e3
   simp only [BL,go_sem,AI,AB,AD,AC,KB_n,KB_x,Nat.reduceBEq,Nat.reduceAdd,Nat.reduceLT,Nat.reduceLeDiff,Nat.reduceEqDiff,reduceIte,Int.reduceEq,reduceCtorEq,hin,hq,hm,hones,e1,e2]
   have h4:setE name value=1:=by simp [setE,h1]
   have h5:setR v name value=noV:=by simp [setR,h4]
   rw [h4,h5]
   exact e3
 | true =>
 rw [h1] at hin
 by_cases h2:1024 < value.length
 · have c1:((1024:Int) < (value.length:Int))=True:=eq_true (by omega)
   obtain ⟨q2,e1,e2,e3⟩:=bad 40
   rw [hz] at e1 e2 e3
   simp only [BL,go_sem,AI,AB,AD,AC,KB_n,KB_x,Nat.reduceBEq,Nat.reduceAdd,Nat.reduceLT,Nat.reduceLeDiff,Nat.reduceEqDiff,reduceIte,Int.reduceEq,reduceCtorEq,hin,hq,hm,hones,c1,e1,e2]
   have h4:setE name value=40:=by simp [setE,h1,h2]
   have h5:setR v name value=noV:=by simp [setR,h4]
   rw [h4,h5]
   exact e3
 have c1:((1024:Int) < (value.length:Int))=False:=eq_false (by omega)
 have h4:setE name value=0:=by simp [setE,h1]; omega
 have h5:setR v name value=setV v name value:=by simp [setR,h4]
 rw [h4,h5]
 obtain ⟨r1,s1,a1,q2,d1,d2,t1,H2,n2⟩:=OL H1 (kc.over H1.over) ha
 obtain ⟨q3,d3,H3,n3⟩:=H2.adp (T:=26) (z:=noV0) (m:=4) (v:=.agg [.nsl,.nsl,a1,.i .i64 v.status]) rfl ⟨rfl,t1.ones _⟩
 have l1:=H1.ld 1 (off:=2) rfl rfl
 have l2:=H2.ld 1 (off:=3) rfl rfl
 have l3:=H1.ld 1 (off:=3) rfl rfl
 rw [hz] at d3
 simp only [BL,go_sem,AI,AB,AD,AC,KB_n,KB_x,Nat.reduceBEq,Nat.reduceAdd,Nat.reduceLT,Nat.reduceLeDiff,Nat.reduceEqDiff,reduceIte,Int.reduceEq,reduceCtorEq,hin,hq,hm,hones,c1]
 refine Ij rfl ?_
 simp only [go_sem,AI,AB,AD,AC,KB_n,KB_x,Nat.reduceBEq,Nat.reduceAdd,Nat.reduceLT,Nat.reduceLeDiff,Nat.reduceEqDiff,reduceIte,Int.reduceEq,reduceCtorEq,l1,rc,qc,pc,d1,d2,l2,l3,t1.noTok,t1.pub,t1.cells.1,d3]
 refine Kz rfl ?_ ?_ ⟨⟨_,rfl,l2⟩,⟨_,rfl,l3⟩,⟨_,rfl,l2⟩,⟨_,rfl,l2⟩,trivial⟩ (Ik ?_)
 · simp only [go_sem,AI,AB,AD,AC,KB_n,KB_x,Nat.reduceBEq,Nat.reduceAdd,Nat.reduceLT,Nat.reduceLeDiff,Nat.reduceEqDiff,reduceIte,Int.reduceEq,reduceCtorEq]
 · exact Lj _ _
 obtain ⟨r4,q4,d4,H4,n4⟩:=MX H3 (ka.over H3.over) (by omega)
 obtain ⟨a5,q5,d5,H5,n5,p5⟩:=H4.app 0 (y:=.sl 1 [.s name] .full) (ys:=[.s name]) rfl (by simp [elems,St.ok]) (by simp; omega)
 have p5:=p5 (by simp)
 obtain ⟨q6,d6,H6,n6⟩:=H5.thaw 0 rfl p5.1 [] (by simp) (by simp)
 have hM:v.names.map AV.s++[.s name]=(v.names++[name]).map .s:=by simp
 rw [hM,LR] at H6
 rw [hM,List.length_map,Nat.mul_one] at d6
 generalize hMM:v.names++[name]=M at H6 d6
 have hMl:M.length=v.names.length+1:=by rw [← hMM]; simp
 generalize hidr:q5.nb=idr at H6 d6
 obtain ⟨q7,d7,H7,n7⟩:=H6.sort 0 rfl (by omega) (M.length,false)
 have hsl:=IY M
 obtain ⟨q8,d8,H8,n8⟩:=H7.compact 0 rfl (by omega) (IZ _) (M.length,false)
 rw [hsl] at d8
 have hK:ER (ED M)=setK v name:=by rw [← hMM]; rfl
 have hKl:(setK v name).length≤M.length:=by rw [← hK]; have:=IZ (ED M); omega
 have hKm:∀ x∈setK v name,x∈v.names++[name]:=fun x hx=>(MR hall x).1 hx
 have hR:(setV v name value).av=.agg [tx (setK v name),tx ((setK v name).map (Dl v name value)),tx v.args,.i .i64 v.status]:=rfl
 rw [hK] at d8 H8
 have l4:=H3.ld 2 (off:=0) rfl rfl
 simp only [KS_n]
 simp only [go_sem,AI,AB,AD,AC,KB_n,KB_x,Nat.reduceBEq,Nat.reduceAdd,Nat.reduceLT,Nat.reduceLeDiff,Nat.reduceEqDiff,reduceIte,Int.reduceEq,reduceCtorEq,l4,ra,pa,d4,alS1,d5,d6,OS,d7,Qc,OT,d8]
 generalize hpad:List.replicate ((ED M).length - (setK v name).length) ([]:List Nat)=pad at H8
 generalize hi8:q2.nb=i8 at H8
 generalize setK v name=K at H8 hKl hKm hR
 refine FM (fun n e q=>∃ (i:Nat) (an av:AV),i+n=K.length∧Hp s q s.en [⟨1,9,an,(K.take i).map .s,true⟩,⟨1,9,av,((K.take i).map (Dl v name value)).map .s,true⟩] [(idr,.row 9 ((K++pad).map .s) false 0),(i8,.cells 26 [an,av,a1,.i .i64 v.status]),(m+1,.cells 26 noV0),(m,.cells 26 [a,b,c,.i .i64 v.status])] ∧
  e.get 1=.s name∧e.get 2=.s value∧e.get 3=.p m 0∧e.get 6=.p (m+1) 0∧e.get 8=.p i8 0∧e.get 39=.bl idr 1 0 K.length (M.length,false)∧e.get 40=.i .i64 (K.length:Nat)∧e.get 41=.i .i64 i) ?_ K.length _ _ ?_
 · rintro n e q ⟨i,an,av,hin,H,g1,g2,g3,g6,g8,g39,g40,g41⟩
   by_cases c2:i < K.length
   · have e2:((i:Int) < (K.length:Int))=True:=eq_true (by omega)
     obtain ⟨l,hl⟩:∃ l,K[i]=l:=⟨_,rfl⟩
     have l5:=H.ldr 0 (off:=i) (v:=.s l) rfl (by rw [List.getElem?_map,List.getElem?_append_left c2,List.getElem?_eq_getElem c2,hl]; rfl)
     have hKi:l∈v.names++[name]:=hKm l (by rw [← hl]; exact List.getElem_mem c2)
     have htk:K.take i++[l]=K.take (i+1):=by rw [← hl]; exact List.take_append_getElem c2
     have htk2:∀ {x},Dl v name value l=x→(K.take (i+1)).map (Dl v name value)=(K.take i).map (Dl v name value)++[x]:=fun h=>by rw [← htk,List.map_append,List.map_singleton,h]
     have hsz1:(K.take i).length+1 < 2^38:=by rw [List.length_take]; omega
     have hsz2:((K.take i).map (Dl v name value)).length+1 < 2^38:=by rw [List.length_map]; exact hsz1
     have hw1:=Bh (show i+1 < 2^63 by omega)
     by_cases c3:l=name
     · have e3:(l≠name)=False:=by simp only [eq_iff_iff,iff_false]; exact fun h=>h c3
       have hx:Dl v name value l=value:=by simp [Dl,c3]
       simp only [go_sem,AI,AB,AD,AC,KB_n,KB_x,Nat.reduceBEq,Nat.reduceAdd,Nat.reduceLT,Nat.reduceLeDiff,Nat.reduceEqDiff,reduceIte,Int.reduceEq,reduceCtorEq,g39,g40,g41,e2,Aq,c2,l5,g1,g2,Nat.zero_add,Nat.mul_one,e3]
       refine Lq (p:=(idr,.row 9 ((K++pad).map .s) false 0)) (l:=l) (x:=value) H ?_ ?_ ?_ hsz1 hsz2 ?_
       · simp only [go_sem,AI,AB,AD,AC,KB_n,KB_x,Nat.reduceBEq,Nat.reduceAdd,Nat.reduceLT,Nat.reduceLeDiff,Nat.reduceEqDiff,reduceIte,Int.reduceEq,reduceCtorEq,g8]
       · simp only [go_sem,AI,AB,AD,AC,KB_n,KB_x,Nat.reduceBEq,Nat.reduceAdd,Nat.reduceLT,Nat.reduceLeDiff,Nat.reduceEqDiff,reduceIte,Int.reduceEq,reduceCtorEq]
       · simp only [go_sem,AI,AB,AD,AC,KB_n,KB_x,Nat.reduceBEq,Nat.reduceAdd,Nat.reduceLT,Nat.reduceLeDiff,Nat.reduceEqDiff,reduceIte,Int.reduceEq,reduceCtorEq]
       intro e' an' av' q' hsm H'
       simp only [go_sem,AI,AB,AD,AC,KB_n,KB_x,Nat.reduceBEq,Nat.reduceAdd,Nat.reduceLT,Nat.reduceLeDiff,Nat.reduceEqDiff,reduceIte,Int.reduceEq,reduceCtorEq,hsm.get,g1,g2,g3,g6,g8,g39,g40,g41,hw1]
       exact ⟨n - 1,by omega,i+1,an',av',by omega,by rw [htk2 hx,← htk]; exact H',rfl⟩
     · have e3:(l≠name)=True:=by simp only [eq_iff_iff,iff_true]; exact c3
       have hx:Dl v name value l=v.values.getD (idxL l v.names).toNat []:=by simp [Dl,c3]
       have hin':l∈v.names:=by
        rcases List.mem_append.1 hKi with h | h
        · exact h
        · exact absurd (List.mem_singleton.1 h) c3
       obtain ⟨j,hj,hj2⟩:=Po hin'
       have hix:=Ph (ka.over H.over) l (by omega)
       have la:=H.ld 3 (off:=0) rfl rfl
       have lb:=H.ld 3 (off:=1) rfl rfl
       have hvn:=hv.n
       rw [hj] at hix hx
       have hx:Dl v name value l=v.values.getD j []:=hx
       by_cases c4:j < v.values.length
       · have e4:((j:Int) < (v.values.length:Int))=True:=eq_true (by omega)
         obtain ⟨y,hy,hgd⟩:=getD_some c4
         obtain ⟨id2,hbl,lrd⟩:=(kb.over H.over).rd hy c4
         have c4':(j < v.values.length)=True:=by simp [c4]
         rw [hbl] at lb
         have lb2:lenA q 1 (.bl id2 1 0 v.values.length (v.values.length,false))=some (.i .i64 (v.values.length:Nat)):=rfl
         simp only [go_sem,AI,AB,AD,AC,KB_n,KB_x,Nat.reduceBEq,Nat.reduceAdd,Nat.reduceLT,Nat.reduceLeDiff,Nat.reduceEqDiff,reduceIte,Int.reduceEq,reduceCtorEq,g39,g40,g41,e2,Aq,c2,l5,g1,g2,g3,Nat.zero_add,Nat.mul_one,e3,la,ra,pa,lb,hix,lb2,e4,c4',lrd]
         refine Lq (p:=(idr,.row 9 ((K++pad).map .s) false 0)) (l:=l) (x:=y) H ?_ ?_ ?_ hsz1 hsz2 ?_
         · simp only [go_sem,AI,AB,AD,AC,KB_n,KB_x,Nat.reduceBEq,Nat.reduceAdd,Nat.reduceLT,Nat.reduceLeDiff,Nat.reduceEqDiff,reduceIte,Int.reduceEq,reduceCtorEq,g8]
         · simp only [go_sem,AI,AB,AD,AC,KB_n,KB_x,Nat.reduceBEq,Nat.reduceAdd,Nat.reduceLT,Nat.reduceLeDiff,Nat.reduceEqDiff,reduceIte,Int.reduceEq,reduceCtorEq]
         · simp only [go_sem,AI,AB,AD,AC,KB_n,KB_x,Nat.reduceBEq,Nat.reduceAdd,Nat.reduceLT,Nat.reduceLeDiff,Nat.reduceEqDiff,reduceIte,Int.reduceEq,reduceCtorEq]
         intro e' an' av' q' hsm H'
         simp only [go_sem,AI,AB,AD,AC,KB_n,KB_x,Nat.reduceBEq,Nat.reduceAdd,Nat.reduceLT,Nat.reduceLeDiff,Nat.reduceEqDiff,reduceIte,Int.reduceEq,reduceCtorEq,hsm.get,g1,g2,g3,g6,g8,g39,g40,g41,hw1]
         exact ⟨n - 1,by omega,i+1,an',av',by omega,by rw [htk2 (hx.trans hgd),← htk]; exact H',rfl⟩
       · have e4:((j:Int) < (v.values.length:Int))=False:=eq_false (by omega)
         have hgd:=OU c4
         simp only [go_sem,AI,AB,AD,AC,KB_n,KB_x,Nat.reduceBEq,Nat.reduceAdd,Nat.reduceLT,Nat.reduceLeDiff,Nat.reduceEqDiff,reduceIte,Int.reduceEq,reduceCtorEq,g39,g40,g41,e2,Aq,c2,l5,g1,g2,g3,Nat.zero_add,Nat.mul_one,e3,la,ra,pa,lb,rb,lb',hix,e4]
         refine Lq (p:=(idr,.row 9 ((K++pad).map .s) false 0)) (l:=l) (x:=[]) H ?_ ?_ ?_ hsz1 hsz2 ?_
         · simp only [go_sem,AI,AB,AD,AC,KB_n,KB_x,Nat.reduceBEq,Nat.reduceAdd,Nat.reduceLT,Nat.reduceLeDiff,Nat.reduceEqDiff,reduceIte,Int.reduceEq,reduceCtorEq,g8]
         · simp only [go_sem,AI,AB,AD,AC,KB_n,KB_x,Nat.reduceBEq,Nat.reduceAdd,Nat.reduceLT,Nat.reduceLeDiff,Nat.reduceEqDiff,reduceIte,Int.reduceEq,reduceCtorEq]
         · simp only [go_sem,AI,AB,AD,AC,KB_n,KB_x,Nat.reduceBEq,Nat.reduceAdd,Nat.reduceLT,Nat.reduceLeDiff,Nat.reduceEqDiff,reduceIte,Int.reduceEq,reduceCtorEq]
         intro e' an' av' q' hsm H'
         simp only [go_sem,AI,AB,AD,AC,KB_n,KB_x,Nat.reduceBEq,Nat.reduceAdd,Nat.reduceLT,Nat.reduceLeDiff,Nat.reduceEqDiff,reduceIte,Int.reduceEq,reduceCtorEq,hsm.get,g1,g2,g3,g6,g8,g39,g40,g41,hw1]
         exact ⟨n - 1,by omega,i+1,an',av',by omega,by rw [htk2 (hx.trans hgd),← htk]; exact H',rfl⟩
   · have e2:((i:Int) < (K.length:Int))=False:=eq_false (by omega)
     obtain rfl:i=K.length:=by omega
     obtain ⟨an',q1,k1,u1,G1,_⟩:=H.pub 0 rfl
     obtain ⟨av',q2,k2,u2,G2,_⟩:=G1.pub 1 rfl
     have l6:=H.ldw 1 (m:=4) rfl rfl
     obtain ⟨q3,k3,G3,_⟩:=G2.stw 2 (v:=.agg [an',av',a1,.i .i64 v.status]) (m:=4) rfl rfl ⟨rfl,by simp only [P3,u1.ones,u2.ones,t1.ones]; rfl⟩
     have l7:=G3.ldw 2 (m:=4) rfl rfl
     simp only [go_sem,AI,AB,AD,AC,KB_n,KB_x,Nat.reduceBEq,Nat.reduceAdd,Nat.reduceLT,Nat.reduceLeDiff,Nat.reduceEqDiff,reduceIte,Int.reduceEq,reduceCtorEq,g39,g40,g41,e2,g8,l6,k1,k2,t1.pub,g6,k3,l7,u1.frz,u2.frz,t1.frz]
     refine AW G3.over ?_ ?_
     · simp only [Af,AV.refs,AV.refs.go,u1.refs (Dp _),u2.refs (Dp _),t1.refs (Dp _),Bool.or_self]
     · rw [hR]
       simp only [Af,wkZ,wk,u1.wk (Gb _),u2.wk (Gb _),t1.wk (Gb _),List.take_length]
       rfl
 · simp only [go_sem,AI,AB,AD,AC,KB_n,KB_x,Nat.reduceBEq,Nat.reduceAdd,Nat.reduceLT,Nat.reduceLeDiff,Nat.reduceEqDiff,reduceIte,Int.reduceEq,reduceCtorEq]
   refine ⟨0,.nsl,.nsl,by omega,?_,rfl⟩
   have H9:=(H8.addFull 1 9 (a:=.nsl) (xs:=[]) true .nil).addFull 1 9 (a:=.nsl) (xs:=[]) true .nil
   exact H9
end Go.Proofs.Ytfpoihibfajhlaa

namespace Go.Proofs.Ytfpoihibfajhlaa
open Go.Proofs.Ytfpoihibfajhlaa.Am
attribute [local irreducible] W WO WE WQ WD Tr.get Tr.set
theorem MY (L:List (List Nat)) {lo hi:Option AV} {p r:Nat} (hb:Be L.length lo hi=some (p,r)) (q:St):Br q false 1 (tx L) lo hi none=some (tx ((L.drop p).take (r - p)),q):=by
 have hb':Be (L.map AV.s).length lo hi=some (p,r):=by rw [List.length_map]; exact hb
 simp only [Br,if_true,hb']
 split
 · rename_i h
   obtain ⟨rfl,rfl⟩:=h
   rw [List.drop_zero,Nat.sub_zero,List.length_map,List.take_length]
 · unfold tx
   rw [List.map_take,List.map_drop]
def atL (name:List Nat):List (List Nat)→Nat
 | []=>0
 | l::L=>if ltN l name then atL name L+1 else 0
theorem MZ (name:List Nat):∀ L,atL name L≤L.length
 | []=>by simp [atL]
 | l::L=>by
   have:=MZ name L
   unfold atL
   split<;>simp<;>omega
def putP (v:VV) (name value:List Nat):VV :=
 if v.names[atL name v.names]? = some name then v else
  ⟨v.names.take (atL name v.names)++[name]++v.names.drop (atL name v.names),v.values.take (atL name v.names)++[value]++v.values.drop (atL name v.names),v.args,v.status⟩
section
variable {v:VV} {name value:List Nat} {s q:St} {e:Tr} {m:Nat}
def KWp (s:St) (v:VV) (name value:List Nat):Ex→Tr→St→Prop:=KF s AF.res AF.cout (putP v name value).av
abbrev BP (v:VV) (m:Nat) (a b:AV):List (Nat×Box):=[(m+1,.cells 24 [.nsl,.nsl,.nsl,.i .i64 0]),(m,.cells 24 [a,b,tx v.args,.i .i64 v.status])]
theorem P9 {s0:St} {n:En} {R:List RA} {B:List (Nat×Box)} (H:Hp s0 q n R B) (L:List (List Nat)) (x:List Nat) {at':Nat} (hat:at'≤L.length) (hL:L.length < 2^37) :
    ∃ a1 q1 a2 q2 a3 q3,appA q 1 9 (.sl 1 [] .full) (tx (L.take at'))=some (a1,q1)∧appA q1 1 9 a1 (.sl 1 [.s x] .full)=some (a2,q2)∧appA q2 1 9 a2 (tx (L.drop at'))=some (a3,q3) ∧
     (∀ T,Hp s0 q1 n T B→True)∧Hp s0 q1 n (⟨1,9,a1,(L.take at').map .s,true⟩::R) B∧Hp s0 q2 n (⟨1,9,a2,(L.take at'++[x]).map .s,true⟩::R) B∧Hp s0 q3 n (⟨1,9,a3,(L.take at'++[x]++L.drop at').map .s,true⟩::R) B:=by
 obtain ⟨a1,q1,d1,H1,n1,_⟩:=H.appN (es:=1) 9 (a:=.sl 1 [] .full) (xs:=[]) (y:=tx (L.take at')) (ys:=(L.take at').map .s) (.inr (.inr (.inl rfl))) (by simp [elems]) (by simp [List.length_take]; omega)
 rw [List.nil_append] at H1
 obtain ⟨a2,q2,d2,H2,n2,_⟩:=H1.app 0 (y:=.sl 1 [.s x] .full) (ys:=[.s x]) rfl (by simp [elems,St.ok]) (by simp [List.length_take]; omega)
 have e2:(L.take at').map AV.s++[.s x]=(L.take at'++[x]).map .s:=by simp
 rw [e2] at H2
 obtain ⟨a3,q3,d3,H3,n3,_⟩:=H2.app 0 (y:=tx (L.drop at')) (ys:=(L.drop at').map .s) rfl (by simp [elems]) (by simp [List.length_take]; omega)
 have e3:(L.take at'++[x]).map AV.s++(L.drop at').map .s=(L.take at'++[x]++L.drop at').map .s:=by simp
 rw [e3] at H3
 exact ⟨a1,q1,a2,q2,a3,q3,d1,d2,d3,fun _ _=>trivial,H1,H2,H3⟩
theorem Rc (hn:v.names.length < 2^37) (hw:v.values.length=v.names.length) (H:Hp s q s.en [] (BP v m (tx v.names) (tx v.values))) (g1:e.get 1=.s name) (g2:e.get 2=.s value) (g3:e.get 3=.p m 0) (g6:e.get 6=.p (m+1) 0) (g7:e.get 7=.i .i64 (atL name v.names:Nat)) :
    W (lim prog) (subC AF.body [1,1,1]) e q (KWp s v name value):=by
 unfold KWp putP
 have hat:=MZ name v.names
 generalize atL name v.names=p at g7 hat
 have ln:=H.ld 1 (off:=0) (v:=tx v.names) rfl rfl
 have lv:=H.ld 1 (off:=1) (v:=tx v.values) rfl rfl
 have lw:=H.ldw 1 (m:=4) rfl rfl
 have hsame:∃ q2,stA q 4 (.p (m+1) 0) (.agg v.cells)=some q2∧ldA q2 true 4 (.p (m+1) 0)=some (.agg v.cells)∧Over s q2:=by
  obtain ⟨q2,e1,H2,_⟩:=H.stw 0 (v:=.agg v.cells) (m:=4) rfl rfl ⟨rfl,rfl⟩
  exact ⟨q2,e1,H2.ldw 0 rfl rfl,H2.over⟩
 obtain ⟨q2,e1,e2,ov2⟩:=hsame
 have hav:∀ (v:VV) {q:St},Over s q→KR s AF.cout v.av (some ([.agg v.cells],q)):=fun v q ov=>by
  refine AW ov ?_ ?_
  · simp only [Af,AV.refs,AV.refs.go,Dp,Bool.or_self]
  · simp only [AF,Af,wkZ,wk,Gb]
 have hput:∀ e:Tr,e.get 1=.s name→e.get 2=.s value→e.get 3=.p m 0→e.get 6=.p (m+1) 0→e.get 7=.i .i64 (p:Nat)→W (lim prog) (subC AF.body [1,1,1,1]) e q (KF s AF.res AF.cout (VV.av ⟨v.names.take p++[name]++v.names.drop p,v.values.take p++[value]++v.values.drop p,v.args,v.status⟩)):=fun e g1 g2 g3 g6 g7=>by
  have hb1:Be v.names.length none (some (.i .i64 (p:Nat)))=some (0,p):=by unfold Be; simp [Bo,hat]
  have hb2:Be v.names.length (some (.i .i64 (p:Nat))) none=some (p,v.names.length):=by unfold Be; simp [Bo,hat]
  have hc1:Be v.values.length none (some (.i .i64 (p:Nat)))=some (0,p):=by rw [hw]; exact hb1
  have hc2:Be v.values.length (some (.i .i64 (p:Nat))) none=some (p,v.values.length):=by rw [hw]; exact hb2
  have s1:=MY v.names hb1
  have s2:=MY v.names hb2
  have s3:=MY v.values hc1
  have s4:=MY v.values hc2
  have k2:(v.names.drop p).take (v.names.length - p)=v.names.drop p:=List.take_of_length_le (by rw [List.length_drop]; omega)
  have k4:(v.values.drop p).take (v.values.length - p)=v.values.drop p:=List.take_of_length_le (by rw [List.length_drop]; omega)
  rw [List.drop_zero,Nat.sub_zero] at s1 s3
  rw [k2] at s2
  rw [k4] at s4
  have hal:∀ x:List Nat,AY 1 [AV.s x]=true:=fun _=>rfl
  have hal0:AY 1 []=true:=rfl
  obtain ⟨a1,q1,a2,q3,a3,q4,d1,d2,d3,_,A1,A2,A3⟩:=P9 H v.names name hat hn
  obtain ⟨q5,d5,H5,_⟩:=A3.st 1 (off:=0) (v:=a3) rfl (by simp) ⟨(A3.rcells 0 rfl).1,(A3.rcells 0 rfl).2.1⟩
  have H5':Hp s q5 s.en [⟨1,9,a3,(v.names.take p++[name]++v.names.drop p).map .s,true⟩] (BP v m a3 (tx v.values)):=H5
  obtain ⟨b1,u1,b2,u2,b3,u3,f1,f2,f3,_,B1,B2,B3⟩:=P9 H5' v.values value (by omega:p≤v.values.length) (by omega)
  obtain ⟨u4,f4,B4,_⟩:=B3.st 1 (off:=1) (v:=b3) rfl (by simp) ⟨(B3.rcells 0 rfl).1,(B3.rcells 0 rfl).2.1⟩
  have B4':Hp s u4 s.en [⟨1,9,b3,(v.values.take p++[value]++v.values.drop p).map .s,true⟩,⟨1,9,a3,(v.names.take p++[name]++v.names.drop p).map .s,true⟩] (BP v m a3 b3):=B4
  obtain ⟨an,u5,j1,t1,C1,_⟩:=B4'.pub 1 rfl
  obtain ⟨bn,u6,j2,t2,C2,_⟩:=C1.pub 0 rfl
  have lw4:=B4'.ldw 1 (m:=4) rfl rfl
  obtain ⟨u7,j3,C3,_⟩:=C2.stw 0 (v:=.agg [an,bn,tx v.args,.i .i64 v.status]) (m:=4) rfl rfl ⟨rfl,by show ones [an,bn,tx v.args,.i .i64 v.status]=true; rw [t1.ones,t2.ones]; rfl⟩
  have lw7:=C3.ldw 0 (m:=4) rfl rfl
  have la:∀ {u:St} {R:List RA},Hp s u s.en R (BP v m (tx v.names) (tx v.values))→ldA u false 1 (.p m 0)=some (tx v.names):=fun h=>h.ld 1 rfl rfl
  have lb:∀ {u:St} {R:List RA},Hp s u s.en R (BP v m a3 (tx v.values))→ldA u false 1 (.p m 1)=some (tx v.values):=fun h=>h.ld 1 rfl rfl
  have la0:=la H
  have la1:=la A1
  have la2:=la A2
  have lb0:=lb H5'
  have lb1:=lb B1
  have lb2:=lb B2
  simp only [AF,subC,go_sem,AI,AB,AD,AC,KB_n,KB_x,Nat.reduceBEq,Nat.reduceAdd,Nat.reduceLT,Nat.reduceLeDiff,Nat.reduceEqDiff,reduceIte,Int.reduceEq,reduceCtorEq]
  refine Ij rfl ?_
  simp only [go_sem,AI,AB,AD,AC,KB_n,KB_x,Nat.reduceBEq,Nat.reduceAdd,Nat.reduceLT,Nat.reduceLeDiff,Nat.reduceEqDiff,reduceIte,Int.reduceEq,reduceCtorEq,g1,g2,g3,g6,g7,la0,la1,la2,s1,s2,hal,hal0,d1,d2,d3,d5,Nat.zero_add]
  refine Kz rfl ?_ (by exact MV v.names) ⟨⟨_,rfl,la2⟩,⟨_,rfl,la0⟩,⟨_,rfl,la1⟩,⟨_,rfl,la1⟩,⟨_,rfl,la1⟩,⟨_,rfl,la2⟩,⟨_,rfl,la2⟩,trivial⟩ (Ik ?_)
  · simp only [go_sem,AI,AB,AD,AC,KB_n,KB_x,Nat.reduceBEq,Nat.reduceAdd,Nat.reduceLT,Nat.reduceLeDiff,Nat.reduceEqDiff,reduceIte,Int.reduceEq,reduceCtorEq,g3]
  simp only [go_sem,AI,AB,AD,AC,KB_n,KB_x,Nat.reduceBEq,Nat.reduceAdd,Nat.reduceLT,Nat.reduceLeDiff,Nat.reduceEqDiff,reduceIte,Int.reduceEq,reduceCtorEq]
  refine Ij rfl ?_
  simp only [go_sem,AI,AB,AD,AC,KB_n,KB_x,Nat.reduceBEq,Nat.reduceAdd,Nat.reduceLT,Nat.reduceLeDiff,Nat.reduceEqDiff,reduceIte,Int.reduceEq,reduceCtorEq,g1,g2,g3,g6,g7,lb0,lb1,lb2,s3,s4,hal,hal0,f1,f2,f3,f4,Nat.zero_add]
  refine Kz rfl ?_ (by exact MV v.values) ⟨⟨_,rfl,lb2⟩,⟨_,rfl,lb0⟩,⟨_,rfl,lb1⟩,⟨_,rfl,lb1⟩,⟨_,rfl,lb1⟩,⟨_,rfl,lb2⟩,⟨_,rfl,lb2⟩,trivial⟩ (Ik ?_)
  · simp only [go_sem,AI,AB,AD,AC,KB_n,KB_x,Nat.reduceBEq,Nat.reduceAdd,Nat.reduceLT,Nat.reduceLeDiff,Nat.reduceEqDiff,reduceIte,Int.reduceEq,reduceCtorEq,g3]
  simp only [go_sem,AI,AB,AD,AC,KB_n,KB_x,Nat.reduceBEq,Nat.reduceAdd,Nat.reduceLT,Nat.reduceLeDiff,Nat.reduceEqDiff,reduceIte,Int.reduceEq,reduceCtorEq,g3,g6,lw4,j1,j2,j3,lw7,t1.frz,t2.frz]
  refine AW C3.over ?_ ?_
  · simp only [Af,AV.refs,AV.refs.go,t1.refs (Dp _),t2.refs (Dp _),Dp,Bool.or_self]
  · simp only [Af,wkZ,wk,t1.wk (Gb _),t2.wk (Gb _),Gb]
 show W _ (.seq (subC AF.body [1,1,1,0]) (subC AF.body [1,1,1,1])) _ _ _
 generalize subC AF.body [1,1,1,1]=X at hput
 unfold tx at ln
 by_cases hp:p < v.names.length
 · have c1:((p:Int) < (v.names.length:Int))=True:=eq_true (by omega)
   obtain ⟨x,hx⟩:∃ x,v.names[p]? = some x:=⟨_,List.getElem?_eq_getElem hp⟩
   have hx2:(v.names.map AV.s)[p]? = some (.s x):=by rw [List.getElem?_map,hx]; rfl
   by_cases he:x=name
   · have c2:(x=name)=True:=by simp [he]
     rw [if_pos (by rw [hx,he])]
     simp only [AF,subC,go_sem,AI,AB,AD,AC,KB_n,KB_x,Nat.reduceBEq,Nat.reduceAdd,Nat.reduceLT,Nat.reduceLeDiff,Nat.reduceEqDiff,reduceIte,Int.reduceEq,reduceCtorEq,g1,g2,g3,g6,g7,ln,lw,List.length_map,c1,Aq,hx2,FE,J2,Nat.zero_add,c2,e1,e2]
     exact hav v ov2
   · have c2:(x=name)=False:=by simp [he]
     have hne:¬ v.names[p]? = some name:=by rw [hx]; simpa using he
     rw [if_neg hne]
     simp only [AF,subC,go_sem,AI,AB,AD,AC,KB_n,KB_x,Nat.reduceBEq,Nat.reduceAdd,Nat.reduceLT,Nat.reduceLeDiff,Nat.reduceEqDiff,reduceIte,Int.reduceEq,reduceCtorEq,g1,g2,g3,g6,g7,ln,lw,List.length_map,c1,Aq,hx2,FE,J2,Nat.zero_add,c2]
     refine hput _ ?_ ?_ ?_ ?_ ?_<;>simp only [go_sem,AI,AB,AD,AC,KB_n,KB_x,Nat.reduceBEq,Nat.reduceAdd,Nat.reduceLT,Nat.reduceLeDiff,Nat.reduceEqDiff,reduceIte,Int.reduceEq,reduceCtorEq,g1,g2,g3,g6,g7]
 · have c1:((p:Int) < (v.names.length:Int))=False:=eq_false (by omega)
   have hne:¬ v.names[p]? = some name:=by rw [List.getElem?_eq_none (by omega)]; simp
   rw [if_neg hne]
   simp only [AF,subC,go_sem,AI,AB,AD,AC,KB_n,KB_x,Nat.reduceBEq,Nat.reduceAdd,Nat.reduceLT,Nat.reduceLeDiff,Nat.reduceEqDiff,reduceIte,Int.reduceEq,reduceCtorEq,g1,g2,g3,g6,g7,ln,lw,List.length_map,c1,Nat.zero_add]
   refine hput _ ?_ ?_ ?_ ?_ ?_<;>simp only [go_sem,AI,AB,AD,AC,KB_n,KB_x,Nat.reduceBEq,Nat.reduceAdd,Nat.reduceLT,Nat.reduceLeDiff,Nat.reduceEqDiff,reduceIte,Int.reduceEq,reduceCtorEq,g1,g2,g3,g6,g7]
theorem Pj {name l:List Nat} {L:List (List Nat)} {i:Nat} (h:L[i]? = some l):atL name (L.drop i)=if ltN l name then atL name (L.drop (i+1))+1 else 0:=by
 obtain ⟨hi,rfl⟩:=List.getElem?_eq_some_iff.1 h
 rw [List.drop_eq_getElem_cons hi,atL]
end
theorem QA (v:VV) (hn:v.names.length < 2^37) (hl:v.values.length=v.names.length) (name value:List Nat) (s:St) (hw:Wf s) :
    (lim prog).call Ay [v.av,.s name,.s value] s=some ((putP v name value).av,s):=by
 refine fn_W Dh rfl rfl ?_
 have hz0:wkZ AF.cin [v.av,.s name,.s value]=[v.av,.s name,.s value]:=by
  simp only [AF,wkZ,wk,Gb]
 rw [hz0]
 have H1:=((Hp.begin hw).new (.cells 24 v.cells)).new (.cells 24 [.nsl,.nsl,.nsl,.i .i64 0])
 rw [Ch] at H1
 generalize hq:(s.enter.new (.cells 24 v.cells)).new (.cells 24 [.nsl,.nsl,.nsl,.i .i64 0])=q at H1
 generalize hm:s.enter.nb=m at H1
 have hr:∀ e:Tr,e.get 1=.s name→e.get 2=.s value→e.get 3=.p m 0→e.get 6=.p (m+1) 0→e.get 7=.i .i64 (atL name v.names:Nat)→W (lim prog) (subC AF.body [1,1,1]) e q (KWp s v name value) :=
  fun e g1 g2 g3 g6 g7=>Rc hn hl H1 g1 g2 g3 g6 g7
 unfold KWp at hr
 show W _ (.seq (subC AF.body [0]) (.seq (subC AF.body [1,0]) (.seq (subC AF.body [1,1,0]) (subC AF.body [1,1,1])))) _ _ _
 generalize subC AF.body [1,1,1]=X at hr
 have ln:=H1.ld 1 (off:=0) (v:=tx v.names) rfl rfl
 unfold tx at ln
 have hones:ones v.cells=true:=rfl
 simp only [AF,subC,go_sem,AI,AB,AD,AC,KB_n,KB_x,Nat.reduceBEq,Nat.reduceAdd,Nat.reduceLT,Nat.reduceLeDiff,Nat.reduceEqDiff,reduceIte,Int.reduceEq,reduceCtorEq,hq,hm]
 refine FM (fun x e q'=>∃ i:Nat,i+x=v.names.length∧q'=q∧e.get 1=.s name∧e.get 2=.s value∧e.get 3=.p m 0∧e.get 6=.p (m+1) 0∧e.get 7=.i .i64 (i:Nat)∧i+atL name (v.names.drop i)=atL name v.names) ?_ v.names.length _ _ ?_
 · rintro x e q' ⟨i,hix,rfl,g1,g2,g3,g6,g7,hat⟩
   by_cases h:i < v.names.length
   · have c1:((i:Int) < (v.names.length:Int))=True:=eq_true (by omega)
     obtain ⟨l,hlx⟩:∃ l,v.names[i]? = some l:=⟨_,List.getElem?_eq_getElem h⟩
     have hx2:(v.names.map AV.s)[i]? = some (.s l):=by rw [List.getElem?_map,hlx]; rfl
     have hst:=Pj (name:=name) hlx
     have hw1:=Bh (show i+1 < 2^63 by omega)
     cases hc:ltN l name with
     | true =>
       rw [hc,if_pos rfl] at hst
       simp only [go_sem,AI,AB,AD,AC,KB_n,KB_x,Nat.reduceBEq,Nat.reduceAdd,Nat.reduceLT,Nat.reduceLeDiff,Nat.reduceEqDiff,reduceIte,Int.reduceEq,reduceCtorEq,g1,g2,g3,g6,g7,ln,List.length_map,c1,Aq,hx2,FE,J2,Nat.zero_add,hc,hw1]
       exact ⟨x - 1,by omega,i+1,by omega,rfl,by omega⟩
     | false =>
       rw [hc,if_neg (by simp)] at hst
       have hi:i=atL name v.names:=by omega
       simp only [go_sem,AI,AB,AD,AC,KB_n,KB_x,Nat.reduceBEq,Nat.reduceAdd,Nat.reduceLT,Nat.reduceLeDiff,Nat.reduceEqDiff,reduceIte,Int.reduceEq,reduceCtorEq,g1,g2,g3,g6,g7,ln,List.length_map,c1,Aq,hx2,FE,J2,Nat.zero_add,hc]
       refine hr _ ?_ ?_ ?_ ?_ ?_<;>simp only [go_sem,AI,AB,AD,AC,KB_n,KB_x,Nat.reduceBEq,Nat.reduceAdd,Nat.reduceLT,Nat.reduceLeDiff,Nat.reduceEqDiff,reduceIte,Int.reduceEq,reduceCtorEq,g1,g2,g3,g6,g7,hi]
   · have c1:((i:Int) < (v.names.length:Int))=False:=eq_false (by omega)
     have hi:i=atL name v.names:=by
      rw [List.drop_eq_nil_of_le (by omega)] at hat
      simp only [atL] at hat; omega
     simp only [go_sem,AI,AB,AD,AC,KB_n,KB_x,Nat.reduceBEq,Nat.reduceAdd,Nat.reduceLT,Nat.reduceLeDiff,Nat.reduceEqDiff,reduceIte,Int.reduceEq,reduceCtorEq,g1,g2,g3,g6,g7,ln,List.length_map,c1,Nat.zero_add]
     refine hr _ ?_ ?_ ?_ ?_ ?_<;>simp only [go_sem,AI,AB,AD,AC,KB_n,KB_x,Nat.reduceBEq,Nat.reduceAdd,Nat.reduceLT,Nat.reduceLeDiff,Nat.reduceEqDiff,reduceIte,Int.reduceEq,reduceCtorEq,g1,g2,g3,g6,g7,hi]
 · simp only [go_sem,AI,AB,AD,AC,KB_n,KB_x,Nat.reduceBEq,Nat.reduceAdd,Nat.reduceLT,Nat.reduceLeDiff,Nat.reduceEqDiff,reduceIte,Int.reduceEq,reduceCtorEq]
   exact ⟨0,by omega,rfl,by simp⟩
end Go.Proofs.Ytfpoihibfajhlaa

namespace Go.Proofs.Ytfpoihibfajhlaa
open Go.Proofs.Ytfpoihibfajhlaa.Am
attribute [local irreducible] W WO WE WQ WD Tr.get Tr.set
theorem Ma {v:VV} (h:v.values.length=v.names.length) (name value:List Nat):(putP v name value).values.length=(putP v name value).names.length∧(putP v name value).names.length≤v.names.length+1:=by
 have:=MZ name v.names
 unfold putP
 split
 · exact ⟨h,by omega⟩
 · simp only [List.length_append,List.length_take,List.length_drop,List.length_singleton]
   omega
def setF (v:VV) (name value:List Nat):Nat→VV
 | 0=>putP ⟨[],[],v.args,v.status⟩ name value
 | i+1=>putP (setF v name value i) (v.names.getD i []) (v.values.getD i [])
theorem Mb (v:VV) (name value:List Nat):∀ i,(setF v name value i).values.length=(setF v name value i).names.length∧(setF v name value i).names.length≤i+1
 | 0=>by
   have:=Ma (v:=⟨[],[],v.args,v.status⟩) rfl name value
   exact ⟨this.1,by have:=this.2; simp only [List.length_nil] at this; exact this⟩
 | i+1=>by
   have h:=Mb v name value i
   have:=Ma h.1 (v.names.getD i []) (v.values.getD i [])
   exact ⟨this.1,by have:=this.2; simp only [setF]; omega⟩
def Jy (v:VV) (name value:List Nat):VV:=if setE name value=0 then setF v name value v.names.length else noV
theorem Rd {s0 q:St} {n:En} {R:List RA} {B:List (Nat×Box)} (H:Hp s0 q n R B) (L:List (List Nat)) (hL:L.length < 2^38) :
    ∃ a s',Og q 1 9 (.sl 1 [] .full) (tx L)=some (a,s')∧Cs 1 a (L.map .s)∧Hp s0 s' n R B:=by
 obtain ⟨a1,q1,d1,H1,n1,_⟩:=H.appN (es:=1) 9 (a:=.sl 1 [] .full) (xs:=[]) (y:=tx L) (ys:=L.map .s) (.inr (.inr (.inl rfl))) (by simp [elems]) (by simp; omega)
 rw [List.nil_append] at H1
 obtain ⟨a2,q2,d2,t2,H2,_⟩:=H1.pub 0 rfl
 refine ⟨a2,q2,?_,t2,H2.dropR⟩
 unfold Og
 rw [d1]
 exact d2
theorem OM (v:VV) (hv:v.Ok) (hn:v.names.length+1 < 2^37) (ha:v.args.length < 2^38) (name value:List Nat) (hnm:Txt name) (s:St) (hw:Wf s) :
    (lim prog).call CZ [v.av,.s name,.s value] s=some (.tup [(Jy v name value).av,.i .i64 (setE name value:Nat)],s):=by
 refine fn_W Fy rfl rfl ?_
 have hz0:wkZ AR.cin [v.av,.s name,.s value]=[v.av,.s name,.s value]:=by
  simp only [AR,wkZ,wk,Gb]
 rw [hz0]
 have H1:=((Hp.begin hw).new (.cells 24 v.cells)).new (.cells 24 [.nsl,.nsl,.nsl,.i .i64 0])
 rw [Ch] at H1
 generalize hq:(s.enter.new (.cells 24 v.cells)).new (.cells 24 [.nsl,.nsl,.nsl,.i .i64 0])=q at H1
 generalize hm:s.enter.nb=m at H1
 have hin:=M5 name hnm q H1.wf
 have hav:∀ (x:VV) {q:St} (k:Nat),Over s q→KR s AR.cout (.tup [x.av,.i .i64 (k:Nat)]) (some ([.agg x.cells,.i .i64 (k:Nat)],q)):=fun x q k ov=>by
  refine AW ov ?_ ?_
  · simp only [Af,AV.refs,AV.refs.go,Dp,Bool.or_self]
  · simp only [AR,Af,wkZ,wk,Gb]
 have hno:∀ k:Nat,∃ q2,stA q 4 (.p (m+1) 0) (.agg noV0)=some q2∧ldA q2 true 4 (.p (m+1) 0)=some (.agg noV0)∧KR s AR.cout (.tup [noV.av,.i .i64 (k:Nat)]) (some ([.agg noV0,.i .i64 (k:Nat)],q2)):=fun k=>by
  obtain ⟨q2,e1,H2,_⟩:=H1.stw 0 (v:=.agg noV0) (m:=4) rfl rfl ⟨rfl,rfl⟩
  exact ⟨q2,e1,H2.ldw 0 rfl rfl,AW H2.over rfl rfl⟩
 have hz:noV0=[.nsl,.nsl,.nsl,.i .i64 0]:=rfl
 rw [hz] at hno
 unfold Jy
 cases h1:Dk name with
 | false =>
   rw [h1] at hin
   have h4:setE name value=1:=by simp [setE,h1]
   obtain ⟨q2,e1,e2,e3⟩:=hno 1
   rw [h4,if_neg (by omega)]
   simp only [AR,go_sem,AI,AB,AD,AC,KB_n,KB_x,Nat.reduceBEq,Nat.reduceAdd,Nat.reduceLT,Nat.reduceLeDiff,Nat.reduceEqDiff,reduceIte,Int.reduceEq,reduceCtorEq,hq,hm,hin,e1,e2]
   exact e3
 | true =>
 rw [h1] at hin
 by_cases h2:1024 < value.length
 · have c1:((1024:Int) < (value.length:Int))=True:=eq_true (by omega)
   have h4:setE name value=40:=by simp [setE,h1,h2]
   obtain ⟨q2,e1,e2,e3⟩:=hno 40
   rw [h4,if_neg (by omega)]
   simp only [AR,go_sem,AI,AB,AD,AC,KB_n,KB_x,Nat.reduceBEq,Nat.reduceAdd,Nat.reduceLT,Nat.reduceLeDiff,Nat.reduceEqDiff,reduceIte,Int.reduceEq,reduceCtorEq,hq,hm,hin,c1,e1,e2]
   exact e3
 have c1:((1024:Int) < (value.length:Int))=False:=eq_false (by omega)
 have h4:setE name value=0:=by simp [setE,h1]; omega
 rw [h4,if_pos rfl]
 obtain ⟨a1,q2,d1,t1,H2⟩:=Rd H1 v.args ha
 have l2:=H1.ld 1 (off:=2) (v:=tx v.args) rfl rfl
 have l3:=H1.ld 1 (off:=3) (v:=.i .i64 v.status) rfl rfl
 have l3':=H2.ld 1 (off:=3) (v:=.i .i64 v.status) rfl rfl
 have hp0:(lim prog).call Ay [.agg [.nsl,.nsl,a1,.i .i64 v.status],.s name,.s value] q2=some ((setF v name value 0).av,q2):=by
  have:=Ll (args:=[.agg [.nsl,.nsl,a1,.i .i64 v.status],.s name,.s value]) (args':=[(VV.av ⟨[],[],v.args,v.status⟩),.s name,.s value]) (s:=q2) Dh rfl rfl rfl (by
   simp only [AF,wkZ,wk,t1.wk (Gb _),Gb,List.map_nil,wkM])
  rw [this]
  exact QA ⟨[],[],v.args,v.status⟩ (by simp) rfl name value q2 H2.wf
 have hal0:AY 1 []=true:=rfl
 generalize hF0:setF v name value 0=F0 at hp0
 obtain ⟨q3,d3,H3,n3⟩:=H2.adp (T:=24) (z:=[.nsl,.nsl,.nsl,.i .i64 0]) (m:=4) (v:=F0.av) rfl ⟨rfl,rfl⟩
 generalize hi:q2.nb=i8 at d3 H3
 simp only [AR,go_sem,AI,AB,AD,AC,KB_n,KB_x,Nat.reduceBEq,Nat.reduceAdd,Nat.reduceLT,Nat.reduceLeDiff,Nat.reduceEqDiff,reduceIte,Int.reduceEq,reduceCtorEq,hq,hm,hin,c1]
 refine Ij rfl ?_
 have hsh:∀ (x:VV) (q:St),LN false q x.av=some (x.av,q):=fun _ _=>rfl
 simp only [go_sem,AI,AB,AD,AC,KB_n,KB_x,Nat.reduceBEq,Nat.reduceAdd,Nat.reduceLT,Nat.reduceLeDiff,Nat.reduceEqDiff,reduceIte,Int.reduceEq,reduceCtorEq,l2,hal0,d1,t1.cells.1,t1.noTok,t1.pub,l3,l3',hp0,hsh,d3,hi]
 refine Kz rfl ?_ (Lj _ _) ⟨⟨_,rfl,l3'⟩,⟨_,rfl,l3⟩,⟨_,rfl,l3'⟩,⟨_,rfl,l3'⟩,trivial⟩ (Ik ?_)
 · simp only [go_sem,AI,AB,AD,AC,KB_n,KB_x,Nat.reduceBEq,Nat.reduceAdd,Nat.reduceLT,Nat.reduceLeDiff,Nat.reduceEqDiff,reduceIte,Int.reduceEq,reduceCtorEq]
 have H4:Hp s q3 s.en [] [(i8,.cells 24 F0.cells),(m+1,.cells 24 [.nsl,.nsl,.nsl,.i .i64 0]),(m,.cells 24 v.cells)]:=H3
 simp only [go_sem,AI,AB,AD,AC,KB_n,KB_x,Nat.reduceBEq,Nat.reduceAdd,Nat.reduceLT,Nat.reduceLeDiff,Nat.reduceEqDiff,reduceIte,Int.reduceEq,reduceCtorEq]
 refine FM (fun x e q=>∃ i:Nat,i+x=v.names.length∧Hp s q s.en [] [(i8,.cells 24 (setF v name value i).cells),(m+1,.cells 24 [.nsl,.nsl,.nsl,.i .i64 0]),(m,.cells 24 v.cells)]∧e.get 3=.p m 0∧e.get 6=.p (m+1) 0∧e.get 8=.p i8 0∧e.get 9=.i .i64 (i:Nat)) ?_ v.names.length _ _ ?_
 · clear H4 H3 H2 hp0 d3 d1 l2 l3 l3' hF0 F0
   rintro x e q ⟨i,hix,H,g3,g6,g8,g9⟩
   have la:=H.ld 2 (off:=0) (v:=tx v.names) rfl rfl
   have lb:=H.ld 2 (off:=1) (v:=tx v.values) rfl rfl
   have lo:=H.ldw 0 (m:=4) rfl rfl
   unfold tx at la lb
   by_cases h:i < v.names.length
   · have e1:((i:Int) < (v.names.length:Int))=True:=eq_true (by omega)
     obtain ⟨l,hl⟩:∃ l,v.names[i]? = some l:=⟨_,List.getElem?_eq_getElem h⟩
     have hl2:(v.names.map AV.s)[i]? = some (.s l):=by rw [List.getElem?_map,hl]; rfl
     have hgl:v.names.getD i []=l:=by rw [List.getD_eq_getElem?_getD,hl]; rfl
     have hw1:=Bh (show i+1 < 2^63 by omega)
     have hln:=Mb v name value i
     have hput:∀ y,v.values.getD i []=y→∃ q',(lim prog).call Ay [(setF v name value i).av,.s l,.s y] q=some ((setF v name value (i+1)).av,q)∧stA q 4 (.p i8 0) (setF v name value (i+1)).av=some q'∧Hp s q' s.en [] [(i8,.cells 24 (setF v name value (i+1)).cells),(m+1,.cells 24 [.nsl,.nsl,.nsl,.i .i64 0]),(m,.cells 24 v.cells)]:=fun y hy=>by
      have hp:=QA (setF v name value i) (by omega) hln.1 l y q H.wf
      have e2:putP (setF v name value i) l y=setF v name value (i+1):=by rw [setF,hgl,hy]
      rw [e2] at hp
      obtain ⟨q',d,H',_⟩:=H.stw 0 (v:=(setF v name value (i+1)).av) (m:=4) rfl rfl ⟨rfl,rfl⟩
      exact ⟨q',hp,d,H'⟩
     have lo':ldA q true 4 (.p i8 0)=some (setF v name value i).av:=lo
     generalize setF v name value i=S0 at lo' hput
     by_cases h2:i < v.values.length
     · have e2:((i:Int) < (v.values.length:Int))=True:=eq_true (by omega)
       obtain ⟨y,hy⟩:∃ y,v.values[i]? = some y:=⟨_,List.getElem?_eq_getElem h2⟩
       have hy2:(v.values.map AV.s)[i]? = some (.s y):=by rw [List.getElem?_map,hy]; rfl
       obtain ⟨q',hp,hst,H'⟩:=hput y (by rw [List.getD_eq_getElem?_getD,hy]; rfl)
       generalize hS1:setF v name value (i+1)=S1 at hp hst H'
       simp only [go_sem,AI,AB,AD,AC,KB_n,KB_x,Nat.reduceBEq,Nat.reduceAdd,Nat.reduceLT,Nat.reduceLeDiff,Nat.reduceEqDiff,reduceIte,Int.reduceEq,reduceCtorEq,g3,g6,g8,g9,la,lb,List.length_map,e1,e2,Aq,hl2,hy2,FE,J2,Nat.zero_add,lo',hp,hst,hw1]
       refine ⟨x - 1,by omega,i+1,by omega,?_,rfl⟩
       rw [hS1]; exact H'
     · have e2:((i:Int) < (v.values.length:Int))=False:=eq_false (by omega)
       obtain ⟨q',hp,hst,H'⟩:=hput [] (by rw [List.getD_eq_getElem?_getD,List.getElem?_eq_none (by omega)]; rfl)
       generalize hS1:setF v name value (i+1)=S1 at hp hst H'
       simp only [go_sem,AI,AB,AD,AC,KB_n,KB_x,Nat.reduceBEq,Nat.reduceAdd,Nat.reduceLT,Nat.reduceLeDiff,Nat.reduceEqDiff,reduceIte,Int.reduceEq,reduceCtorEq,g3,g6,g8,g9,la,lb,List.length_map,e1,e2,Aq,hl2,FE,J2,Nat.zero_add,lo',hp,hst,hw1]
       refine ⟨x - 1,by omega,i+1,by omega,?_,rfl⟩
       rw [hS1]; exact H'
   · have e1:((i:Int) < (v.names.length:Int))=False:=eq_false (by omega)
     obtain rfl:i=v.names.length:=by omega
     obtain ⟨q',d,H',_⟩:=H.stw 1 (v:=(setF v name value v.names.length).av) (m:=4) rfl rfl ⟨rfl,rfl⟩
     have lr:=H'.ldw 1 (m:=4) rfl rfl
     have hend:=hav (setF v name value v.names.length) 0 H'.over
     have lr':ldA q' true 4 (.p (m+1) 0)=some (setF v name value v.names.length).av:=lr
     have lo':ldA q true 4 (.p i8 0)=some (setF v name value v.names.length).av:=lo
     generalize setF v name value v.names.length=S0 at lo' lr' d hend
     simp only [go_sem,AI,AB,AD,AC,KB_n,KB_x,Nat.reduceBEq,Nat.reduceAdd,Nat.reduceLT,Nat.reduceLeDiff,Nat.reduceEqDiff,reduceIte,Int.reduceEq,reduceCtorEq,g3,g6,g8,g9,la,List.length_map,e1,lo',d,lr',Nat.zero_add]
     exact hend
 · refine ⟨0,by omega,?_,?_⟩
   · rw [hF0]; exact H4
   · simp only [go_sem,AI,AB,AD,AC,KB_n,KB_x,Nat.reduceBEq,Nat.reduceAdd,Nat.reduceLT,Nat.reduceLeDiff,Nat.reduceEqDiff,reduceIte,Int.reduceEq,reduceCtorEq]; rfl
end Go.Proofs.Ytfpoihibfajhlaa

namespace Go.Proofs.Ytfpoihibfajhlaa
open Go.Proofs.Ytfpoihibfajhlaa.Am
theorem LB:∀ (a b:List Nat),(ltN a b||beqN a b)=!ltN b a
 | [],[]=>rfl
 | [],_::_=>rfl
 | _::_,[]=>rfl
 | a :: x,b::y=>by
   have:=LB x y
   simp only [ltN,beqN]
   rcases Nat.lt_trichotomy a b with h | h | h
   · have e1:Nat.blt a b=true:=by rw [Nat.blt_eq]; exact h
     have e2:Nat.blt b a=false:=by rw [Bool.eq_false_iff]; intro hh; rw [Nat.blt_eq] at hh; omega
     have e3:Nat.beq b a=false:=by rw [Bool.eq_false_iff]; intro hh; rw [Nat.beq_eq] at hh; omega
     simp [e1,e2,e3]
   · subst h
     have e1:Nat.blt a a=false:=by rw [Bool.eq_false_iff]; intro hh; rw [Nat.blt_eq] at hh; omega
     simp only [e1,Nat.beq_refl,Bool.true_and,Bool.false_or,this]
   · have e1:Nat.blt b a=true:=by rw [Nat.blt_eq]; exact h
     have e2:Nat.blt a b=false:=by rw [Bool.eq_false_iff]; intro hh; rw [Nat.blt_eq] at hh; omega
     have e3:Nat.beq a b=false:=by rw [Bool.eq_false_iff]; intro hh; rw [Nat.beq_eq] at hh; omega
     simp [e1,e2,e3]
theorem Jz:∀ a:List Nat,ltN a a=false
 | []=>rfl
 | c::a=>by
   have:Nat.blt c c=false:=by rw [Bool.eq_false_iff]; intro h; rw [Nat.blt_eq] at h; omega
   simp only [ltN,this,Jz a,Bool.and_false,Bool.or_self]
theorem Ir:∀ {a b c:List Nat},ltN a b=true→ltN b c=true→ltN a c=true
 | [],[],c,h,_=>by simp [ltN] at h
 | [],b::m,[],_,h=>by simp [ltN] at h
 | [],b::m,c::r,_,_=>rfl
 | a::l,[],_,h,_=>by simp [ltN] at h
 | a::l,b::m,[],_,h=>by simp [ltN] at h
 | a::l,b::m,c::r,h1,h2=>by
   simp only [ltN,Bool.or_eq_true,Bool.and_eq_true,Nat.blt_eq,Nat.beq_eq] at h1 h2 ⊢
   rcases h1 with h1 | ⟨h1,h1'⟩<;>rcases h2 with h2 | ⟨h2,h2'⟩
   · exact .inl (by omega)
   · exact .inl (by omega)
   · exact .inl (by omega)
   · exact .inr ⟨by omega,Ir h1' h2'⟩
theorem Pk {z x:List Nat} (h:ltN x z=false) (hne:¬ z=x):ltN z x=true:=by
 have h1:=LB z x
 rw [h,Gr,decide_eq_false hne] at h1
 simpa using h1
theorem HR:∀ {a b:List (List Nat)},a.Pairwise (fun x y=>ltN x y=true)→b.Pairwise (fun x y=>ltN x y=true)→(∀ x,x∈a↔x∈b)→a=b
 | [],[],_,_,_=>rfl
 | [],y::b,_,_,h=>by have:=(h y).2 (by simp); simp at this
 | x::a,[],_,_,h=>by have:=(h x).1 (by simp); simp at this
 | x :: a,y::b,ha,hb,h=>by
   rw [List.pairwise_cons] at ha hb
   have hxy:x=y:=by
    rcases List.mem_cons.1 ((h x).1 (by simp)) with e | h1
    · exact e
    · rcases List.mem_cons.1 ((h y).2 (by simp)) with e | h2
      · exact e.symm
      · have h3:=Ir (hb.1 x h1) (ha.1 y h2)
        rw [Jz] at h3; cases h3
   subst hxy
   rw [HR ha.2 hb.2 fun z=>?_]
   have hz:=h z
   constructor
   · intro hm
     rcases List.mem_cons.1 (hz.1 (by simp [hm])) with rfl | h1
     · have:=ha.1 z hm
       rw [Jz] at this; cases this
     · exact h1
   · intro hm
     rcases List.mem_cons.1 (hz.2 (by simp [hm])) with rfl | h1
     · have:=hb.1 z hm
       rw [Jz] at this; cases this
     · exact h1
def insK (name:List Nat):List (List Nat)→List (List Nat)
 | []=>[name]
 | l::L=>if ltN l name then l::insK name L else if l=name then l::L else name::l::L
theorem Hq {name x:List Nat}:∀ {K:List (List Nat)},x∈insK name K↔x=name∨x∈K
 | []=>by simp [insK]
 | l :: L=>by
   unfold insK
   split
   · rw [List.mem_cons,Hq,List.mem_cons]
     constructor
     · rintro (h | h | h)<;>simp [h]
     · rintro (h | h | h)<;>simp [h]
   · split
     · rename_i h
       subst h
       simp
     · simp
theorem J0 {name:List Nat}:∀ {K:List (List Nat)},K.Pairwise (fun x y=>ltN x y=true)→(insK name K).Pairwise (fun x y=>ltN x y=true)
 | [],_=>by simp [insK]
 | l :: L,h=>by
   have h0:=h
   rw [List.pairwise_cons] at h
   unfold insK
   split
   · rename_i hl
     refine List.pairwise_cons.2 ⟨fun x hx=>?_,J0 h.2⟩
     rcases Hq.1 hx with rfl | hx
     · exact hl
     · exact h.1 x hx
   · split
     · exact h0
     · rename_i h1 h2
       have hln:ltN name l=true:=Pk (by simpa using h1) (fun e=>h2 e.symm)
       refine List.pairwise_cons.2 ⟨fun x hx=>?_,h0⟩
       rcases List.mem_cons.1 hx with rfl | hx
       · exact hln
       · exact Ir hln (h.1 x hx)
theorem Lo {name:List Nat}:∀ K:List (List Nat),insK name K=if K[atL name K]? = some name then K else K.take (atL name K)++[name]++K.drop (atL name K)
 | []=>by simp [insK,atL]
 | l :: L=>by
   have ih:=Lo (name:=name) L
   unfold insK atL
   by_cases h:ltN l name=true
   · rw [if_pos h,if_pos h,List.getElem?_cons_succ,ih]
     split
     · rfl
     · rw [List.take_succ_cons,List.drop_succ_cons]; rfl
   · rw [if_neg h,if_neg h,List.getElem?_cons_zero]
     by_cases h2:l=name
     · rw [if_pos h2,if_pos (by rw [h2])]
     · rw [if_neg h2,if_neg (by simpa using h2)]
       rfl
theorem ON {K:List (List Nat)} (g:List Nat→List Nat) {args:List (List Nat)} {st:Int} {name value:List Nat} (h:name∈K∨value=g name) (hs:K.Pairwise (fun x y=>ltN x y=true)) :
    putP ⟨K,K.map g,args,st⟩ name value=⟨insK name K,(insK name K).map g,args,st⟩:=by
 rw [Lo K]
 unfold putP
 simp only
 by_cases hc:K[atL name K]? = some name
 · rw [if_pos hc,if_pos hc]
 · rw [if_neg hc,if_neg hc]
   have hv:value=g name:=by
    rcases h with h | h
    · exfalso
      have he:=Lo (name:=name) K
      rw [if_neg hc] at he
      have hu:=HR (J0 (name:=name) hs) hs (fun x=>by
       rw [Hq]
       constructor
       · rintro (rfl | hx)
         · exact h
         · exact hx
       · exact .inr)
      rw [hu] at he
      have:=congrArg List.length he
      simp only [List.length_append,List.length_take,List.length_drop,List.length_singleton] at this
      have:=MZ name K
      omega
    · exact h
   subst hv
   rw [List.map_append,List.map_append,List.map_take,List.map_drop]
   rfl
theorem idx_at {l:List Nat} {L:List (List Nat)} {i:Nat} (h:L[i]? = some l) (hn:l∉L.take i):idxL l L=(i:Int):=by
 obtain ⟨hi,he⟩:=List.getElem?_eq_some_iff.1 h
 refine J3 hi he fun j hj hh=>hn ?_
 have hjl:j < (L.take i).length:=by rw [List.length_take]; omega
 have:(L.take i)[j]=l:=by rw [List.getElem_take]; exact hh
 rw [← this]
 exact List.getElem_mem hjl
theorem Mc (v:VV) (name value:List Nat):∀ i,i≤v.names.length→∃ K,setF v name value i=⟨K,K.map (Dl v name value),v.args,v.status⟩∧K.Pairwise (fun x y=>ltN x y=true)∧∀ x,x∈K↔(x=name∨x∈v.names.take i)
 | 0,_=>by
   refine ⟨[name],?_,by simp,by simp⟩
   have:=ON (K:=[]) (Dl v name value) (args:=v.args) (st:=v.status) (name:=name) (value:=value) (.inr (by simp [Dl])) .nil
   exact this
 | i + 1,hi=>by
   obtain ⟨K,h1,h2,h3⟩:=Mc v name value i (by omega)
   obtain ⟨l,hl⟩:∃ l,v.names[i]? = some l:=⟨_,List.getElem?_eq_getElem (by omega)⟩
   have hgl:v.names.getD i []=l:=by rw [List.getD_eq_getElem?_getD,hl]; rfl
   refine ⟨insK l K,?_,J0 h2,fun x=>?_⟩
   · rw [setF,h1,hgl]
     refine ON _ ?_ h2
     by_cases hm:l∈K
     · exact .inl hm
     · refine .inr ?_
       rw [h3] at hm
       have hne:¬ l=name:=fun e=>hm (.inl e)
       have hnt:l∉v.names.take i:=fun e=>hm (.inr e)
       unfold Dl
       rw [if_neg hne,idx_at hl hnt,Int.toNat_natCast]
   · rw [Hq,h3,List.take_add_one,hl]
     simp only [Option.toList_some,List.mem_append,List.mem_singleton]
     constructor
     · rintro (h | h | h)<;>simp [h]
     · rintro (h | h | h)<;>simp [h]
theorem OO {v:VV} {name:List Nat} (hall:∀ l∈v.names++[name],∀ n∈l,n < 256) (value:List Nat):Jy v name value=setR v name value:=by
 unfold Jy setR
 split
 · obtain ⟨K,h1,h2,h3⟩:=Mc v name value v.names.length (Nat.le_refl _)
   rw [List.take_length] at h3
   have hK:K=setK v name:=HR h2 (PO (v.names++[name])) fun x=>by
    rw [h3]
    show _↔x∈setN (v.names++[name])
    rw [MR hall,List.mem_append,List.mem_singleton]
    exact Or.comm
   rw [h1,hK]
   rfl
 · rfl

attribute [local irreducible] W WO WE WQ WD Tr.get Tr.set
section
variable {s0 s:St} {n:En} {R:List RA} {B:List (Nat×Box)}
theorem _root_.Go.Proofs.Ytfpoihibfajhlaa.Am.Hp.strw (H:Hp s0 s n R B) (i:Nat) {id T off m rm:Nat} {cs:List AV} {v:AV} (h:B[i]? = some (id,.row T cs false rm)) (hoff:off+m≤cs.length) (hv:v.cells.length=m∧ones v.cells=true) :
    ∃ s',stA s m (.p id off) v=some s'∧Hp s0 s' n R (B.set i (id,.row T (cs.take off++(v.cells++cs.drop (off+v.cells.length))) false rm))∧s'.nb=s.nb:=by
 have hb:(B.set i (id,Box.row T (cs.take off++(v.cells++cs.drop (off+v.cells.length))) false rm))[i]? = some (id,.row T (cs.take off++(v.cells++cs.drop (off+v.cells.length))) false rm):=by
  rw [List.getElem?_set,if_pos rfl,if_pos (by rw [List.getElem?_eq_some_iff] at h; exact h.1)]
 obtain ⟨h1,h2,_⟩:=(H.setBox h (.row T (cs.take off++(v.cells++cs.drop (off+v.cells.length))) false rm)).esc hb v
 refine ⟨_,?_,h1,h2⟩
 have hbx:=(H.box h).1
 simp only at hbx
 have:Am.overR cs off v.cells rm=some (cs.take off++(v.cells++cs.drop (off+v.cells.length))):=by
  unfold Am.overR
  rw [if_pos (by omega)]
 simp only [stA,hbx,hv,and_self,if_true,this]
end
theorem Re (x:VV):still x.av=true:=by
 have h1:=Eg x.names
 have h2:=Eg x.values
 have h3:=Eg x.args
 simp only [still,List.all_cons,List.all_nil,noTok,pubL,Nr,P0,Et,beqA,h1,h2,h3]
 simp
theorem KA.KB {q:St} {a:AV} {L:List (List Nat)} (h:KA a L) (hb:∀ p∈kb a L,q.box? p.1=some p.2∧p.1 < q.nb):KB q (Am.wk (.sl 1 .id) a) L∧Am.wk (.sl 1 .id) (Am.wk (.sl 1 .id) a)=Am.wk (.sl 1 .id) a:=by
 rcases h with ⟨id,h0,rfl⟩ | ⟨rfl,rfl | rfl⟩
 · have:=hb (id,.row 9 (L.map .s) false 0) (by simp [kb])
   simp only [Am.wk]
   exact ⟨.inl ⟨h0,id,rfl,this.1,this.2⟩,trivial⟩
 · have e:Am.wk (.sl 1 .id) (.sl 1 [] .full)=.ws false 1 []:=by simp [Am.wk,wkM]
   rw [e]
   exact ⟨.inr ⟨rfl,rfl⟩,by simp [Am.wk]⟩
 · have e:Am.wk (.sl 1 .id) (.ws false 1 [])=.ws false 1 []:=by simp [Am.wk]
   rw [e,e]
   exact ⟨.inr ⟨rfl,rfl⟩,rfl⟩
theorem QB {s0 q:St} {n:En} {B:List (Nat×Box)} {c:AV} {L M:List (List Nat)} {i:Nat} (hc:KA c L) (hM:M.length=L.length) (hi:i < L.length) (H:Hp s0 q n [] (kb c M++B)) (x:List Nat) :
    ∃ idc q',c=.bl idc 1 0 L.length (L.length,false)∧stA q 1 (.p idc i) (.s x)=some q'∧Hp s0 q' n [] (kb c (M.set i x)++B):=by
 rcases hc with ⟨id,h0,rfl⟩ | ⟨rfl,_⟩
 · have H1:Hp s0 q n [] ((id,.row 9 (M.map .s) false 0)::B):=H
   obtain ⟨q',d,H2,_⟩:=H1.strw 0 (off:=i) (m:=1) (v:=.s x) rfl (by rw [List.length_map]; omega) ⟨rfl,rfl⟩
   refine ⟨id,q',rfl,d,?_⟩
   have e:(M.map AV.s).take i++((AV.s x).cells++(M.map AV.s).drop (i+(AV.s x).cells.length))=(M.set i x).map .s:=by
    rw [List.map_set,List.set_eq_take_append_cons_drop,if_pos (by rw [List.length_map]; omega)]
    rfl
   rw [e] at H2
   exact H2
 · simp at hi
section
variable {s q:St} {e:Tr} {v W:VV} {a b c:AV} {i7 i8 i10:Nat} {Y:List (Nat×Box)} {L M:List (List Nat)} {st:Int}
abbrev ZB (i7 i8 i10:Nat) (a b c:AV) (st:Int) (W:VV) (Y:List (Nat×Box)):List (Nat×Box):=(i10,.cells 24 W.cells)::(i8,.cells 26 W.cells)::(i7,.cells 26 [a,b,c,.i .i64 st])::Y
def rrE (k:Nat):C:=subC AE.body (List.replicate k 1)
def KWE (s:St):Ex→Tr→St→Prop:=KF s AE.res AE.cout (.b true)
theorem e7 (hW:W.Ok) {B:List (Nat×Box)} {er:Nat} (H:Hp s q s.en [] (ZB i7 i8 i10 a b c st W B)) (g8:e.get 8=.p i8 0) (g9:e.get 9=.i .i64 (er:Nat)) (g10:e.get 10=.p i10 0) (g11:e.get 11=.i .i64 (er:Nat)):Am.W (lim prog) (rrE 7) e q (KWE s):=by
 show Am.W _ (subC AE.body [1,1,1,1,1,1,1]) _ _ (KF s _ _ (.b true))
 have l8:=H.ldw 1 (m:=4) rfl rfl
 have l10:=H.ldw 0 (m:=4) rfl rfl
 have hb:=RX W q H.wf
 have hs:=RY W hW q
 have hst:=Re W
 have e1:(((er:Nat):Int)=((er:Nat):Int))=True:=by simp
 have hnt:noTok W.av=true:=rfl
 simp only [AE,subC,go_sem,AI,AB,AD,AC,KB_n,KB_x,Nat.reduceBEq,Nat.reduceAdd,Nat.reduceLT,Nat.reduceLeDiff,Nat.reduceEqDiff,reduceIte,Int.reduceEq,reduceCtorEq]
 refine Ij rfl ?_
 simp only [go_sem,AI,AB,AD,AC,KB_n,KB_x,Nat.reduceBEq,Nat.reduceAdd,Nat.reduceLT,Nat.reduceLeDiff,Nat.reduceEqDiff,reduceIte,Int.reduceEq,reduceCtorEq,g8,g9,g10,g11,e1,l8,l10,hb,hs]
 refine P8 rfl ?_ hst ⟨⟨_,rfl,l10⟩,⟨_,rfl,l10⟩,⟨_,rfl,l10⟩,trivial⟩ (Ik ?_)
 · simp only [go_sem,AI,AB,AD,AC,KB_n,KB_x,Nat.reduceBEq,Nat.reduceAdd,Nat.reduceLT,Nat.reduceLeDiff,Nat.reduceEqDiff,reduceIte,Int.reduceEq,reduceCtorEq,g10]
 simp only [go_sem,AI,AB,AD,AC,KB_n,KB_x,Nat.reduceBEq,Nat.reduceAdd,Nat.reduceLT,Nat.reduceLeDiff,Nat.reduceEqDiff,reduceIte,Int.reduceEq,reduceCtorEq]
 exact AW H.over rfl rfl
theorem e5 (hW:W.Ok) (hc:KA c L) (hb:KA b M) (hL:L.length < 2^62) (hM:M.length < 2^62) {er:Nat} (H:Hp s q s.en [] (kb c L++(kb b M++ZB i7 i8 i10 a b c st W Y))) (g7:e.get 7=.p i7 0) (g8:e.get 8=.p i8 0) (g9:e.get 9=.i .i64 (er:Nat)) (g10:e.get 10=.p i10 0) (g11:e.get 11=.i .i64 (er:Nat)) :
    Am.W (lim prog) (rrE 5) e q (KWE s):=by
 have hr:∀ (e:Tr) (q:St) (B:List (Nat×Box)),Hp s q s.en [] (ZB i7 i8 i10 a b c st W B)→e.get 8=.p i8 0→e.get 9=.i .i64 (er:Nat)→e.get 10=.p i10 0→e.get 11=.i .i64 (er:Nat)→Am.W (lim prog) (rrE 7) e q (KWE s):=fun e q B H g8 g9 g10 g11=>e7 hW H g8 g9 g10 g11
 show Am.W _ (.seq (subC AE.body [1,1,1,1,1,0]) (.seq (subC AE.body [1,1,1,1,1,1,0]) (rrE 7))) _ _ _
 generalize rrE 7=X at hr
 unfold KWE at hr ⊢
 have front:∀ {q:St} {L' M':List (List Nat)},Hp s q s.en [] (kb c L'++(kb b M'++ZB i7 i8 i10 a b c st W Y))→Hp s q s.en [] (ZB i7 i8 i10 a b c st W (Y++(kb c L'++kb b M'))):=fun {q L' M'} h=>by
  refine h.perm (.refl _) ?_
  rw [← List.append_assoc]
  exact List.perm_append_comm
 have sw:∀ {q:St} {L' M':List (List Nat)},Hp s q s.en [] (kb c L'++(kb b M'++ZB i7 i8 i10 a b c st W Y))→Hp s q s.en [] (kb b M'++(kb c L'++ZB i7 i8 i10 a b c st W Y)):=fun {q L' M'} h=>by
  refine h.perm (.refl _) ?_
  rw [← List.append_assoc,← List.append_assoc]
  exact List.perm_append_comm.append_right _
 have sw':∀ {q:St} {L' M':List (List Nat)},Hp s q s.en [] (kb b M'++(kb c L'++ZB i7 i8 i10 a b c st W Y))→Hp s q s.en [] (kb c L'++(kb b M'++ZB i7 i8 i10 a b c st W Y)):=fun {q L' M'} h=>by
  refine h.perm (.refl _) ?_
  rw [← List.append_assoc,← List.append_assoc]
  exact List.perm_append_comm.append_right _
 have lc:∀ {q:St} {L' M':List (List Nat)},Hp s q s.en [] (kb c L'++(kb b M'++ZB i7 i8 i10 a b c st W Y))→ldA q false 1 (.p i7 2)=some c:=fun h=>(front h).ld 2 rfl rfl
 have lb:∀ {q:St} {L' M':List (List Nat)},Hp s q s.en [] (kb c L'++(kb b M'++ZB i7 i8 i10 a b c st W Y))→ldA q false 1 (.p i7 1)=some b:=fun h=>(front h).ld 2 rfl rfl
 obtain ⟨_,_,_,lnc,_,rc⟩:=hc.cell
 obtain ⟨_,_,_,lnb,_,rb⟩:=hb.cell
 simp only [AE,subC,go_sem,AI,AB,AD,AC,KB_n,KB_x,Nat.reduceBEq,Nat.reduceAdd,Nat.reduceLT,Nat.reduceLeDiff,Nat.reduceEqDiff,reduceIte,Int.reduceEq,reduceCtorEq]
 refine FM (fun x e q=>∃ (i:Nat) (L':List (List Nat)),i+x=L.length∧L'.length=L.length∧Hp s q s.en [] (kb c L'++(kb b M++ZB i7 i8 i10 a b c st W Y))∧e.get 7=.p i7 0∧e.get 8=.p i8 0∧e.get 9=.i .i64 (er:Nat)∧e.get 10=.p i10 0∧e.get 11=.i .i64 (er:Nat)∧e.get 12=.i .i64 (i:Nat)) ?_ L.length _ _ ?_
 · clear g7 g8 g9 g10 g11 H
   rintro x e q ⟨i,L1,hix,hL1,H,g7,g8,g9,g10,g11,g12⟩
   have l2:=lc H
   by_cases h:i < L.length
   · have c1:((i:Int) < (L.length:Int))=True:=eq_true (by omega)
     have c2:(i < L.length)=True:=by simp [h]
     have hw1:=Bh (show i+1 < 2^63 by omega)
     obtain ⟨idc,q',hcid,hst,H'⟩:=QB hc hL1 h H [63]
     simp only [go_sem,AI,AB,AD,AC,KB_n,KB_x,Nat.reduceBEq,Nat.reduceAdd,Nat.reduceLT,Nat.reduceLeDiff,Nat.reduceEqDiff,reduceIte,Int.reduceEq,reduceCtorEq,g7,g8,g9,g10,g11,g12,l2,rc,lnc,c1,Nat.zero_add]
     rw [hcid] at l2
     have e4:Am.evX=Am.evX:=rfl
     simp only [go_sem,AI,AB,AD,AC,KB_n,KB_x,Nat.reduceBEq,Nat.reduceAdd,Nat.reduceLT,Nat.reduceLeDiff,Nat.reduceEqDiff,reduceIte,Int.reduceEq,reduceCtorEq,g7,g8,g9,g10,g11,g12,hcid,Aq,c2,Nat.zero_add,Nat.mul_one,hst,hw1]
     rw [hcid] at H'
     refine ⟨x - 1,by omega,i+1,L1.set i [63],by omega,by rw [List.length_set]; exact hL1,H',rfl⟩
   · have c1:((i:Int) < (L.length:Int))=False:=eq_false (by omega)
     simp only [go_sem,AI,AB,AD,AC,KB_n,KB_x,Nat.reduceBEq,Nat.reduceAdd,Nat.reduceLT,Nat.reduceLeDiff,Nat.reduceEqDiff,reduceIte,Int.reduceEq,reduceCtorEq,g7,g8,g9,g10,g11,g12,l2,rc,lnc,c1,Nat.zero_add]
     refine FM (fun x e q=>∃ (i:Nat) (M':List (List Nat)),i+x=M.length∧M'.length=M.length∧Hp s q s.en [] (kb b M'++(kb c L1++ZB i7 i8 i10 a b c st W Y))∧e.get 7=.p i7 0∧e.get 8=.p i8 0∧e.get 9=.i .i64 (er:Nat)∧e.get 10=.p i10 0∧e.get 11=.i .i64 (er:Nat)∧e.get 13=.i .i64 (i:Nat)) ?_ M.length _ _ ?_
     · clear g7 g8 g9 g10 g11 g12 l2 H
       rintro y e q ⟨k,M1,hky,hM1,H,g7,g8,g9,g10,g11,g13⟩
       have l1:=lb (sw' H)
       by_cases h3:k < M.length
       · have c3:((k:Int) < (M.length:Int))=True:=eq_true (by omega)
         have c4:(k < M.length)=True:=by simp [h3]
         have hw1:=Bh (show k+1 < 2^63 by omega)
         obtain ⟨idb,q',hbid,hst,H'⟩:=QB hb hM1 h3 H [63]
         simp only [go_sem,AI,AB,AD,AC,KB_n,KB_x,Nat.reduceBEq,Nat.reduceAdd,Nat.reduceLT,Nat.reduceLeDiff,Nat.reduceEqDiff,reduceIte,Int.reduceEq,reduceCtorEq,g7,g8,g9,g10,g11,g13,l1,rb,lnb,c3,Nat.zero_add]
         rw [hbid] at l1
         simp only [go_sem,AI,AB,AD,AC,KB_n,KB_x,Nat.reduceBEq,Nat.reduceAdd,Nat.reduceLT,Nat.reduceLeDiff,Nat.reduceEqDiff,reduceIte,Int.reduceEq,reduceCtorEq,g7,g8,g9,g10,g11,g13,hbid,Aq,c4,Nat.zero_add,Nat.mul_one,hst,hw1]
         rw [hbid] at H'
         refine ⟨y - 1,by omega,k+1,M1.set k [63],by omega,by rw [List.length_set]; exact hM1,H',rfl⟩
       · have c3:((k:Int) < (M.length:Int))=False:=eq_false (by omega)
         simp only [go_sem,AI,AB,AD,AC,KB_n,KB_x,Nat.reduceBEq,Nat.reduceAdd,Nat.reduceLT,Nat.reduceLeDiff,Nat.reduceEqDiff,reduceIte,Int.reduceEq,reduceCtorEq,g7,g8,g9,g10,g11,g13,l1,rb,lnb,c3,Nat.zero_add]
         refine hr _ _ _ (front (sw' H)) ?_ ?_ ?_ ?_<;>simp only [go_sem,AI,AB,AD,AC,KB_n,KB_x,Nat.reduceBEq,Nat.reduceAdd,Nat.reduceLT,Nat.reduceLeDiff,Nat.reduceEqDiff,reduceIte,Int.reduceEq,reduceCtorEq,g8,g9,g10,g11]
     · simp only [go_sem,AI,AB,AD,AC,KB_n,KB_x,Nat.reduceBEq,Nat.reduceAdd,Nat.reduceLT,Nat.reduceLeDiff,Nat.reduceEqDiff,reduceIte,Int.reduceEq,reduceCtorEq,g7,g8,g9,g10,g11]
       exact ⟨0,M,by omega,rfl,sw H,rfl⟩
 · simp only [go_sem,AI,AB,AD,AC,KB_n,KB_x,Nat.reduceBEq,Nat.reduceAdd,Nat.reduceLT,Nat.reduceLeDiff,Nat.reduceEqDiff,reduceIte,Int.reduceEq,reduceCtorEq,g7,g8,g9,g10,g11]
   exact ⟨0,L,by omega,rfl,H,rfl⟩
end
end Go.Proofs.Ytfpoihibfajhlaa

set_option maxHeartbeats 8000000
namespace Go.Proofs.Ytfpoihibfajhlaa
open Go.Proofs.Ytfpoihibfajhlaa.Am
attribute [local irreducible] W WO WE WQ WD Tr.get Tr.set
theorem _root_.Go.Proofs.Ytfpoihibfajhlaa.Am.Hp.ldm {s0 s:St} {n:En} {R:List RA} {B:List (Nat×Box)} (H:Hp s0 s n R B) {id T m:Nat} {cs:List AV} (h:(id,Box.cells T cs)∈B) (hc:cs.length=m):ldA s true m (.p id 0)=some (.agg cs):=by
 obtain ⟨i,hi⟩:=List.mem_iff_getElem?.1 h
 exact H.ldw i hi hc
theorem Rf {v:VV} (hv:v.Ok) (name value:List Nat) (hn:v.names.length < 2^60):(setR v name value).Ok:=by
 have hk:=Pm v name
 unfold setR
 split
 · exact ⟨by show (setK v name).length < _; omega,by show ((setK v name).map _).length < _; rw [List.length_map]; omega,hv.a,hv.s0,hv.s1⟩
 · exact ⟨by simp [noV],by simp [noV],by simp [noV],by simp [noV],by simp [noV]⟩
theorem J1 (v:VV) (hv:v.Ok) (hvn:∀ l∈v.names,Txt l) (name value:List Nat) (hnm:Txt name) (hnl:name.length < 2^62) (s:St) (hw:Wf s) :
    (lim prog).call CN [v.av,.s name,.s value] s=some (.b true,s):=by
 refine fn_W Ds rfl rfl ?_
 have hz0:wkZ AE.cin [v.av,.s name,.s value]=[v.av,.s name,.s value]:=by
  simp only [AE,wkZ,wk,Gb]
 rw [hz0]
 have H1:=(Hp.begin hw).new (.cells 24 v.cells)
 generalize hq:s.enter.new (.cells 24 v.cells)=q at H1
 generalize hm:s.enter.nb=m at H1
 have l3:=H1.ldw 0 (m:=4) rfl rfl
 have hlg:=OH v hv q
 have hr:∀ (e:Tr) {q:St} {a b c:AV} {i7 i8 i10 er:Nat} {Y:List (Nat×Box)},KA c v.args→KA b v.values→v.names.length < 20000→v.args.length < 20000→v.values.length < 20000→Hp s q s.en [] (kb c v.args++(kb b v.values++ZB i7 i8 i10 a b c v.status (setR v name value) Y))→e.get 7=.p i7 0→e.get 8=.p i8 0→e.get 9=.i .i64 (er:Nat)→e.get 10=.p i10 0→e.get 11=.i .i64 (er:Nat)→Am.W (lim prog) (rrE 5) e q (KWE s) :=
  fun e {q a b c i7 i8 i10 er Y} hc hb h0 h1 h2 H g7 g8 g9 g10 g11=>e5 (Rf hv name value (by omega)) hc hb (by omega) (by omega) H g7 g8 g9 g10 g11
 show Am.W _ (.seq (subC AE.body [0]) (.seq (subC AE.body [1,0]) (.seq (subC AE.body [1,1,0]) (.seq (subC AE.body [1,1,1,0]) (.seq (subC AE.body [1,1,1,1,0]) (rrE 5)))))) _ _ _
 generalize rrE 5=X at hr
 unfold KWE at hr
 cases c1:Ha v [] with
 | true =>
   rw [c1] at hlg
   simp only [AE,subC,go_sem,AI,AB,AD,AC,KB_n,KB_x,Nat.reduceBEq,Nat.reduceAdd,Nat.reduceLT,Nat.reduceLeDiff,Nat.reduceEqDiff,reduceIte,Int.reduceEq,reduceCtorEq,hq,hm,l3,hlg]
   exact AW H1.over rfl rfl
 | false =>
 rw [c1] at hlg
 by_cases c2:1000 < name.length
 · have e2:((1000:Int) < (name.length:Int))=True:=eq_true (by omega)
   simp only [AE,subC,go_sem,AI,AB,AD,AC,KB_n,KB_x,Nat.reduceBEq,Nat.reduceAdd,Nat.reduceLT,Nat.reduceLeDiff,Nat.reduceEqDiff,reduceIte,Int.reduceEq,reduceCtorEq,hq,hm,l3,hlg,e2]
   exact AW H1.over rfl rfl
 have e2:((1000:Int) < (name.length:Int))=False:=eq_false (by omega)
 by_cases c3:5000 < value.length
 · have e3:((5000:Int) < (value.length:Int))=True:=eq_true (by omega)
   simp only [AE,subC,go_sem,AI,AB,AD,AC,KB_n,KB_x,Nat.reduceBEq,Nat.reduceAdd,Nat.reduceLT,Nat.reduceLeDiff,Nat.reduceEqDiff,reduceIte,Int.reduceEq,reduceCtorEq,hq,hm,l3,hlg,e2,e3]
   exact AW H1.over rfl rfl
 have e3:((5000:Int) < (value.length:Int))=False:=eq_false (by omega)
 have hS:=Pd c1
 have hSn:=hS.n
 have hSa:=hS.a
 have hSw:=hS.w
 obtain ⟨a,b,c,q2,hgv,ka,kb',kc,H2⟩:=Rb v (by omega) (by omega) (by omega) H1
 obtain ⟨ca,oa,pa,la,na,ra⟩:=ka.cell
 obtain ⟨cb,ob,pb,lb,nb,rb⟩:=kb'.cell
 obtain ⟨cc,oc,pc,lc,nc,rc⟩:=kc.cell
 have H3:=H2.new (.cells 26 [.nsl,.nsl,.nsl,.i .i64 0])
 generalize hq3:q2.new (.cells 26 [.nsl,.nsl,.nsl,.i .i64 0])=q3 at H3
 generalize hi7:q2.nb=i7 at H3
 obtain ⟨q4,d4,H4,_⟩:=H3.stw 0 (v:=.agg [a,b,c,.i .i64 v.status]) (m:=4) rfl rfl ⟨rfl,by show ones [a,b,c,.i .i64 v.status]=true; rw [oa,ob,oc]; rfl⟩
 have H4':Hp s q4 s.en [] ((i7,.cells 26 [a,b,c,.i .i64 v.status])::(kb c v.args++(kb b v.values++(kb a v.names++[(m,.cells 24 v.cells)])))):=H4
 have l7:=H4'.ldw 0 (m:=4) rfl rfl
 have hbx:∀ p∈((i7,Box.cells 26 [a,b,c,.i .i64 v.status])::(kb c v.args++(kb b v.values++(kb a v.names++[(m,.cells 24 v.cells)])))),q4.box? p.1=some p.2∧p.1 < q4.nb:=fun p hp=>by
  obtain ⟨i,hi⟩:=List.mem_iff_getElem?.1 hp
  have:=H4'.box hi
  exact ⟨this.1,this.2.2⟩
 obtain ⟨Ka,wa⟩:=ka.KB (q:=q4) fun p hp=>hbx p (by simp [hp])
 obtain ⟨Kb,wb⟩:=kb'.KB (q:=q4) fun p hp=>hbx p (by simp [hp])
 obtain ⟨Kc,wc⟩:=kc.KB (q:=q4) fun p hp=>hbx p (by simp [hp])
 have hset:(lim prog).call EM [.agg [a,b,c,.i .i64 v.status],.s name,.s value] q4=some (.tup [(setR v name value).av,.i .i64 (setE name value:Nat)],q4):=by
  rw [Ll (args:=[.agg [a,b,c,.i .i64 v.status],.s name,.s value]) (args':=[.agg [wk (.sl 1 .id) a,wk (.sl 1 .id) b,wk (.sl 1 .id) c,.i .i64 v.status],.s name,.s value]) (s:=q4) HY rfl rfl rfl (by
   have h1:BL.cin=[(.agg [(.sl 1 .id),(.sl 1 .id),(.sl 1 .id),.id]),.id,.id]:=rfl
   rw [h1]
   simp only [wkZ,wk,wa,wb,wc])]
  exact set_K v hv (by omega) (by omega) name value hnm hvn hnl q4 H4'.wf Ka Kb Kc
 have H5:=H4'.new (.cells 26 [.nsl,.nsl,.nsl,.i .i64 0])
 generalize hq5:q4.new (.cells 26 [.nsl,.nsl,.nsl,.i .i64 0])=q5 at H5
 generalize hi8:q4.nb=i8 at H5
 obtain ⟨q6,d6,H6,_⟩:=H5.stw 0 (v:=(setR v name value).av) (m:=4) rfl rfl ⟨rfl,rfl⟩
 have H6':Hp s q6 s.en [] ((i8,.cells 26 (setR v name value).cells)::(i7,.cells 26 [a,b,c,.i .i64 v.status])::(kb c v.args++(kb b v.values++(kb a v.names++[(m,.cells 24 v.cells)])))):=H6
 have l36:ldA q6 true 4 (.p m 0)=some (.agg v.cells):=H6'.ldm (T:=24) (by simp) rfl
 have hall:∀ l∈v.names++[name],∀ n∈l,n < 256:=fun l hl=>by
  rcases List.mem_append.1 hl with hl | hl
  · exact (hvn l hl).lt
  · rw [List.mem_singleton.1 hl]; exact hnm.lt
 have href:=OM v hv (by omega) (by omega) name value hnm q6 H6'.wf
 rw [OO hall value] at href
 have H7:=H6'.new (.cells 24 [.nsl,.nsl,.nsl,.i .i64 0])
 generalize hq7:q6.new (.cells 24 [.nsl,.nsl,.nsl,.i .i64 0])=q7 at H7
 generalize hi10:q6.nb=i10 at H7
 obtain ⟨q8,d8,H8,_⟩:=H7.stw 0 (v:=(setR v name value).av) (m:=4) rfl rfl ⟨rfl,rfl⟩
 have H8':Hp s q8 s.en [] ((i10,.cells 24 (setR v name value).cells)::(i8,.cells 26 (setR v name value).cells)::(i7,.cells 26 [a,b,c,.i .i64 v.status])::(kb c v.args++(kb b v.values++(kb a v.names++[(m,.cells 24 v.cells)])))):=H8
 have H9:Hp s q8 s.en [] (kb c v.args++(kb b v.values++ZB i7 i8 i10 a b c v.status (setR v name value) (kb a v.names++[(m,.cells 24 v.cells)]))):=by
  refine H8'.perm (.refl _) ?_
  have e1:∀ (Z P Q Y:List (Nat×Box)),(Z++(P++(Q++Y))).Perm (P++(Q++(Z++Y))):=fun Z P Q Y=>by
   refine (List.perm_append_comm_assoc Z P (Q++Y)).trans ?_
   exact (List.perm_append_comm_assoc Z Q Y).append_left _
  exact e1 [(i10,.cells 24 (setR v name value).cells),(i8,.cells 26 (setR v name value).cells),(i7,.cells 26 [a,b,c,.i .i64 v.status])] _ _ _
 have hfin:=fun e=>hr e (er:=setE name value) kc kb' hSn hSa hSw H9
 generalize setR v name value=W at hset href d6 d8 hfin
 simp only [AE,subC,go_sem,AI,AB,AD,AC,KB_n,KB_x,Nat.reduceBEq,Nat.reduceAdd,Nat.reduceLT,Nat.reduceLeDiff,Nat.reduceEqDiff,reduceIte,Int.reduceEq,reduceCtorEq,hq,hm,l3,hlg,e2,e3,hgv,hq3,hi7,d4,l7,pa,pb,pc,hset,hq5,hi8,d6,l36,href,hq7,hi10,d8]
 refine hfin _ ?_ ?_ ?_ ?_ ?_<;>simp only [go_sem,AI,AB,AD,AC,KB_n,KB_x,Nat.reduceBEq,Nat.reduceAdd,Nat.reduceLT,Nat.reduceLeDiff,Nat.reduceEqDiff,reduceIte,Int.reduceEq,reduceCtorEq]
end Go.Proofs.Ytfpoihibfajhlaa
