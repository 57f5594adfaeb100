/-
  The abstract machine's functions are the dump's. By program.
-/
import Derived.Test.YtmnbfgfgjmmhfaaGreatDoorRows
import Derived.Test.YtmnbfgfgjmmhfaaGreatDoorAmKeep
import Derived.Test.YtmnbfgfgjmmhfaaGreatDoorFns
import Derived.Test.YtmnbfgfgjmmhfaaGreatDoorPrims
import Derived.KernelRfl
import Derived.Test.YtmnbfgfgjmmhfaaGreatDoorAmSorted
import Derived.Laws.RangeAny
set_option linter.all false
set_option linter.unusedVariables false
set_option linter.unusedSimpArgs false
set_option linter.unusedSectionVars false
set_option maxRecDepth 100000
namespace Go.Proofs.YtmnbfgfgjmmhfaaGreatDoor
open Go.Proofs.YtmnbfgfgjmmhfaaGreatDoor.Am Go.Proofs
def zs_2:List Int:=[1,10,100,1000,10000,100000,1000000,10000000,100000000,1000000000,10000000000,100000000000,1000000000000,10000000000000,100000000000000,1000000000000000,10000000000000000,100000000000000000,1000000000000000000,10000000000000000000]
def gt:Nat→Option (List AV)
 | 2=>some (zs_2.map fun z=>AV.i .u64 z)
 | _=>none
theorem Gc:compF Tryz.prog gt false false [6000000008,8] Tryz.f6=some Ao:=by kernel_rfl
theorem Rv:compF Tryz.prog gt false false [] Tryz.f18=some GM:=by kernel_rfl
theorem NU:compF Tryz.prog gt true false [] Tryz.f21=some E7:=by kernel_rfl
theorem Pj:compF Tryz.prog gt false false [] Tryz.f23=some Ee:=by kernel_rfl
theorem Pk:compF Tryz.prog gt true false [] Tryz.f24=some F1:=by kernel_rfl
theorem IB:compF Tryz.prog gt false false [] Tryz.f25=some Au:=by kernel_rfl
theorem He:compF Tryz.prog gt false false [] Tryz.f26=some EP:=by kernel_rfl
theorem Eu:compF Tryz.prog gt false false [] Tryz.f27=some Ad:=by kernel_rfl
theorem G1:compF Tryz.prog gt false false [] Tryz.f28=some Ah:=by kernel_rfl
theorem Pl:compF Tryz.prog gt true false [2000000016] Tryz.f29=some C8:=by kernel_rfl
theorem IC:compF Tryz.prog gt false false [] Tryz.f30=some A9:=by kernel_rfl
theorem ID:compF Tryz.prog gt false false [1000001000,1000001001,1000005000] Tryz.f31=some AI:=by kernel_rfl
theorem Hf:compF Tryz.prog gt false false [] Tryz.f32=some BR:=by kernel_rfl
theorem IE:compF Tryz.prog gt false false [] Tryz.f33=some Ba:=by kernel_rfl
theorem Iw:compF Tryz.prog gt false false [] Tryz.f34=some Bj:=by kernel_rfl
theorem IG:compF Tryz.prog gt false false [] Tryz.f35=some Bb:=by kernel_rfl
theorem Un:compF Tryz.prog gt false false [] Tryz.f36=some Eg:=by kernel_rfl
theorem IH:compF Tryz.prog gt false false [] Tryz.f37=some BA:=by kernel_rfl
theorem NV:compF Tryz.prog gt false false [] Tryz.f49=some Gu:=by kernel_rfl
theorem Kj:compF Tryz.prog gt false false [] Tryz.f50=some Ci:=by kernel_rfl
theorem CN:compF Tryz.prog gt false false [] Tryz.f51=some AP:=by kernel_rfl
theorem NW:compF Tryz.prog gt false false [] Tryz.f52=some E8:=by kernel_rfl
theorem Rx:compF Tryz.prog gt false false [1000004003] Tryz.f53=some EF:=by kernel_rfl
theorem CZ:compF Tryz.prog gt false false [] Tryz.f54=some AU:=by kernel_rfl
theorem NX:compF Tryz.prog gt false false [] Tryz.f55=some E9:=by kernel_rfl
theorem NY:compF Tryz.prog gt true false [1000005005,1000006005] Tryz.f57=some DP:=by kernel_rfl
theorem LX:compF Tryz.prog gt false false [] Tryz.f58=some Ds:=by kernel_rfl
theorem GQ:compF Tryz.prog gt false false [] Tryz.f59=some C9:=by kernel_rfl
theorem Ry:compF Tryz.prog gt false false [] Tryz.f60=some HR:=by kernel_rfl
theorem Mm:compF Tryz.prog gt false false [] Tryz.f61=some Da:=by kernel_rfl
theorem Ei:compF Tryz.prog gt false false [] Tryz.f62=some AZ:=by kernel_rfl
theorem Pm:compF Tryz.prog gt false false [] Tryz.f64=some F2:=by kernel_rfl
theorem Hg:compF Tryz.prog gt false false [] Tryz.f66=some BS:=by kernel_rfl
theorem Hh:compF Tryz.prog gt false false [] Tryz.f67=some AO:=by kernel_rfl
theorem II:compF Tryz.prog gt false false [] Tryz.f68=some Av:=by kernel_rfl
theorem Hi:compF Tryz.prog gt false false [] Tryz.f69=some BT:=by kernel_rfl
theorem Qg:compF Tryz.prog gt false false [] Tryz.f70=some EI:=by kernel_rfl
theorem Ep:compF Tryz.prog gt false false [] Tryz.f71=some Af:=by kernel_rfl
theorem Ca:compF Tryz.prog gt false false [] Tryz.f72=some AK:=by kernel_rfl
theorem C4:compF Tryz.prog gt false false [] Tryz.f73=some AM:=by kernel_rfl
theorem IJ:compF Tryz.prog gt false false [] Tryz.f74=some BB:=by kernel_rfl
theorem LY:compF Tryz.prog gt false false [] Tryz.f84=some Dt:=by kernel_rfl
theorem JW:compF Tryz.prog gt false false [] Tryz.f85=some DD:=by kernel_rfl
theorem LZ:compF Tryz.prog gt false false [] Tryz.f86=some FJ:=by kernel_rfl
theorem La:compF Tryz.prog gt false false [] Tryz.f87=some Cm:=by kernel_rfl
theorem Cn:compF Tryz.prog gt false false [] Tryz.f88=some AX:=by kernel_rfl
theorem DE:compF Tryz.prog gt true false [] Tryz.f89=some Ag:=by kernel_rfl
theorem F8:compF Tryz.prog gt false false [] Tryz.f90=some Ct:=by kernel_rfl
theorem NZ:compF Tryz.prog gt false false [] Tryz.f91=some D3:=by kernel_rfl
theorem C5:compF Tryz.prog gt false false [] Tryz.f92=some Ab:=by kernel_rfl
theorem Ix:compF Tryz.prog gt false false [] Tryz.f94=some Du:=by kernel_rfl
theorem Na:compF Tryz.prog gt false false [] Tryz.f95=some Cp:=by kernel_rfl
theorem Pn:compF Tryz.prog gt false false [] Tryz.f101=some Il:=by kernel_rfl
theorem Lb:compF Tryz.prog gt false false [] Tryz.f102=some FK:=by kernel_rfl
theorem IK:compF Tryz.prog gt false false [] Tryz.f103=some AQ:=by kernel_rfl
theorem G3:compF Tryz.prog gt false false [] Tryz.f104=some CU:=by kernel_rfl
theorem Hj:compF Tryz.prog gt false false [] Tryz.f105=some Cj:=by kernel_rfl
theorem IL:compF Tryz.prog gt false false [1000004003,1000005003] Tryz.f106=some Aj:=by kernel_rfl
theorem Mn:compF Tryz.prog gt false false [] Tryz.f117=some Db:=by kernel_rfl
theorem DF:compF Tryz.prog gt false false [] Tryz.f118=some AY:=by kernel_rfl
theorem Lc:compF Tryz.prog gt false false [] Tryz.f119=some CL:=by kernel_rfl
theorem Dm:compF Tryz.prog gt false false [] Tryz.f120=some BC:=by kernel_rfl
theorem Hk:compF Tryz.prog gt false false [1000007000,1000009000,1000017000] Tryz.f126=some BU:=by kernel_rfl
theorem Iy:compF Tryz.prog gt false false [] Tryz.f127=some Ap:=by kernel_rfl
theorem Kk:compF Tryz.prog gt false false [] Tryz.f142=some Dc:=by kernel_rfl
theorem Ld:compF Tryz.prog gt false false [] Tryz.f143=some EQ:=by kernel_rfl
theorem FR:compF Tryz.prog gt false false [] Tryz.f144=some CM:=by kernel_rfl
theorem DG:compF Tryz.prog gt false false [] Tryz.f145=some Az:=by kernel_rfl
theorem D6:compF Tryz.prog gt false false [] Tryz.f147=some Bz:=by kernel_rfl
theorem CB:compF Tryz.prog gt false false [] Tryz.f148=some Aw:=by kernel_rfl
theorem Gd:compF Tryz.prog gt false false [] Tryz.f152=some CF:=by kernel_rfl
theorem Hl:compF Tryz.prog gt false false [] Tryz.f153=some A6:=by kernel_rfl
theorem JQ:compF Tryz.prog gt false false [] Tryz.f154=some Bt:=by kernel_rfl
theorem GR:compF Tryz.prog gt false false [] Tryz.f163=some BX:=by kernel_rfl
theorem DA:compF Tryz.prog gt false false [] Tryz.f165=some BD:=by kernel_rfl
theorem G4:compF Tryz.prog gt false false [] Tryz.f167=some CV:=by kernel_rfl
theorem F9:compF Tryz.prog gt false false [] Tryz.f170=some BJ:=by kernel_rfl
theorem Dz:compF Tryz.prog gt false false [] Tryz.f171=some BM:=by kernel_rfl
theorem Ev:compF Tryz.prog gt false false [] Tryz.f172=some A1:=by kernel_rfl
theorem D0:compF Tryz.prog gt false false [] Tryz.f173=some BN:=by kernel_rfl
theorem GA:compF Tryz.prog gt false false [] Tryz.f178=some Cu:=by kernel_rfl
theorem ER:compF Tryz.prog gt false false [] Tryz.f179=some Bk:=by kernel_rfl
theorem Yq:tabC.All (Ti Tryz.prog gt) :=
 ⟨.inl ⟨rfl,Tryz.f88,[],false,Tryz.func88,Cn⟩,⟨.inl ⟨rfl,Tryz.f57,[1000005005,1000006005],false,Tryz.func57,NY⟩,⟨.inl ⟨rfl,Tryz.f49,[],false,Tryz.func49,NV⟩,⟨.inl ⟨rfl,Tryz.f24,[],false,Tryz.func24,Pk⟩,⟨.inl ⟨rfl,Tryz.f21,[],false,Tryz.func21,NU⟩,⟨.inl ⟨rfl,Tryz.f18,[],false,Tryz.func18,Rv⟩,trivial,trivial⟩,⟨.inl ⟨rfl,Tryz.f23,[],false,Tryz.func23,Pj⟩,trivial,trivial⟩⟩,⟨.inl ⟨rfl,Tryz.f27,[],false,Tryz.func27,Eu⟩,⟨.inl ⟨rfl,Tryz.f26,[],false,Tryz.func26,He⟩,trivial,trivial⟩,⟨.inl ⟨rfl,Tryz.f29,[2000000016],false,Tryz.func29,Pl⟩,trivial,trivial⟩⟩⟩,⟨.inl ⟨rfl,Tryz.f53,[1000004003],false,Tryz.func53,Rx⟩,⟨.inl ⟨rfl,Tryz.f51,[],false,Tryz.func51,CN⟩,⟨.inl ⟨rfl,Tryz.f50,[],false,Tryz.func50,Kj⟩,trivial,trivial⟩,⟨.inl ⟨rfl,Tryz.f52,[],false,Tryz.func52,NW⟩,trivial,trivial⟩⟩,⟨.inl ⟨rfl,Tryz.f55,[],false,Tryz.func55,NX⟩,⟨.inl ⟨rfl,Tryz.f54,[],false,Tryz.func54,CZ⟩,trivial,trivial⟩,trivial⟩⟩⟩,⟨.inl ⟨rfl,Tryz.f64,[],false,Tryz.func64,Pm⟩,⟨.inl ⟨rfl,Tryz.f61,[],false,Tryz.func61,Mm⟩,⟨.inl ⟨rfl,Tryz.f59,[],false,Tryz.func59,GQ⟩,⟨.inl ⟨rfl,Tryz.f58,[],false,Tryz.func58,LX⟩,trivial,trivial⟩,⟨.inl ⟨rfl,Tryz.f60,[],false,Tryz.func60,Ry⟩,trivial,trivial⟩⟩,⟨.inr ⟨_,rfl,FS⟩,⟨.inl ⟨rfl,Tryz.f62,[],false,Tryz.func62,Ei⟩,trivial,trivial⟩,trivial⟩⟩,⟨.inl ⟨rfl,Tryz.f85,[],false,Tryz.func85,JW⟩,⟨.inr ⟨_,rfl,DH⟩,⟨.inr ⟨_,rfl,GB⟩,trivial,trivial⟩,⟨.inl ⟨rfl,Tryz.f84,[],false,Tryz.func84,LY⟩,trivial,trivial⟩⟩,⟨.inl ⟨rfl,Tryz.f87,[],false,Tryz.func87,La⟩,⟨.inl ⟨rfl,Tryz.f86,[],false,Tryz.func86,LZ⟩,trivial,trivial⟩,trivial⟩⟩⟩⟩,⟨.inl ⟨rfl,Tryz.f142,[],false,Tryz.func142,Kk⟩,⟨.inl ⟨rfl,Tryz.f101,[],false,Tryz.func101,Pn⟩,⟨.inl ⟨rfl,Tryz.f92,[],false,Tryz.func92,C5⟩,⟨.inl ⟨rfl,Tryz.f90,[],false,Tryz.func90,F8⟩,⟨.inl ⟨rfl,Tryz.f89,[],false,Tryz.func89,DE⟩,trivial,trivial⟩,⟨.inl ⟨rfl,Tryz.f91,[],false,Tryz.func91,NZ⟩,trivial,trivial⟩⟩,⟨.inl ⟨rfl,Tryz.f94,[],false,Tryz.func94,Ix⟩,⟨.inr ⟨_,rfl,Cw⟩,trivial,trivial⟩,⟨.inl ⟨rfl,Tryz.f95,[],false,Tryz.func95,Na⟩,trivial,trivial⟩⟩⟩,⟨.inl ⟨rfl,Tryz.f119,[],false,Tryz.func119,Lc⟩,⟨.inl ⟨rfl,Tryz.f117,[],false,Tryz.func117,Mn⟩,⟨.inl ⟨rfl,Tryz.f102,[],false,Tryz.func102,Lb⟩,trivial,trivial⟩,⟨.inl ⟨rfl,Tryz.f118,[],false,Tryz.func118,DF⟩,trivial,trivial⟩⟩,⟨.inr ⟨_,rfl,GC⟩,⟨.inl ⟨rfl,Tryz.f120,[],false,Tryz.func120,Dm⟩,trivial,trivial⟩,trivial⟩⟩⟩,⟨.inl ⟨rfl,Tryz.f165,[],false,Tryz.func165,DA⟩,⟨.inl ⟨rfl,Tryz.f147,[],false,Tryz.func147,D6⟩,⟨.inl ⟨rfl,Tryz.f144,[],false,Tryz.func144,FR⟩,⟨.inl ⟨rfl,Tryz.f143,[],false,Tryz.func143,Ld⟩,trivial,trivial⟩,⟨.inl ⟨rfl,Tryz.f145,[],false,Tryz.func145,DG⟩,trivial,trivial⟩⟩,⟨.inl ⟨rfl,Tryz.f163,[],false,Tryz.func163,GR⟩,⟨.inl ⟨rfl,Tryz.f148,[],false,Tryz.func148,CB⟩,trivial,trivial⟩,trivial⟩⟩,⟨.inl ⟨rfl,Tryz.f173,[],false,Tryz.func173,D0⟩,⟨.inl ⟨rfl,Tryz.f171,[],false,Tryz.func171,Dz⟩,⟨.inl ⟨rfl,Tryz.f170,[],false,Tryz.func170,F9⟩,trivial,trivial⟩,⟨.inl ⟨rfl,Tryz.f172,[],false,Tryz.func172,Ev⟩,trivial,trivial⟩⟩,⟨.inl ⟨rfl,Tryz.f179,[],false,Tryz.func179,ER⟩,⟨.inl ⟨rfl,Tryz.f178,[],false,Tryz.func178,GA⟩,trivial,trivial⟩,trivial⟩⟩⟩⟩⟩
theorem Yr:∀ (f:Nat) (fn:Fun),progC f=some fn→Ti Tryz.prog gt f fn:=fun f fn h=>PT.all_get Yq h
end Go.Proofs.YtmnbfgfgjmmhfaaGreatDoor

namespace Go.Proofs.YtmnbfgfgjmmhfaaGreatDoor
open Go.Proofs.YtmnbfgfgjmmhfaaGreatDoor.Am
abbrev tx (L:List (List Nat)):AV:=.ws false 1 (L.map .s)
theorem AG (k:IntKind) (i:Nat):CX (.i k (i:Int))=some i:=by simp [CX]
theorem IA (s:St) (v:AV):ldA s false 1 (.ep [v] 0 .shut)=some v:=rfl
theorem Dl (l:List Nat):(AV.s l).cells=[.s l]:=rfl
theorem GO {i:Nat} (h:i < 2^63):IntKind.i64.wrap (i:Int)=i:=by
 have e1:((i:Int) % 2^64)=i:=by omega
 simp only [IntKind.wrap,IntKind.signed,IntKind.bits,e1]
 rw [if_neg]
 simp; omega
theorem AR {i:Nat} (h:i+1 < 2^63):IntKind.i64.wrap ((i:Int)+1)=((i+1:Nat):Int):=by
 rw [← GO h]; simp
theorem Dy (n:Nat):Int.ofNat n=(n:Int):=rfl

/-! ### A byte in a text -/
theorem UQ {a c:Nat} (h:¬ a=c):Nat.beq a c=false:=Bool.eq_false_iff.2 (by rw [Ne,Nat.beq_eq]; exact h)
theorem OO {c:Nat}:∀ {l:List Nat} {n:Nat},idxB c n l < 0↔c∉l
 | [],n=>by simp [idxB]
 | a :: l,n=>by
   simp only [idxB]
   by_cases h:a=c
   · subst h
     simp [Nat.beq_eq]
   · have hb:Nat.beq a c=false:=UQ h
     rw [hb,cond_false,OO]
     simp; omega
theorem PY {c:Nat}:∀ {l:List Nat} {n:Nat},c∉l→idxB c n l = -1
 | [],n,_=>rfl
 | a::l,n,h=>by
   simp only [List.mem_cons,not_or] at h
   have hb:Nat.beq a c=false:=UQ (Ne.symm h.1)
   simp only [idxB]
   rw [hb,cond_false,PY h.2]
theorem ext0 (s:St) (l:List Nat) (c:Nat) (hc:c < 256):extA s 0 [.s l,.i .u8 (c:Int)]=some (.i .i64 (idxB c 0 l),s):=by
 have h:((IntKind.u8=IntKind.u8)∧(0:Int)≤(c:Int)∧(c:Int) < 256):=⟨rfl,by omega,by omega⟩
 show (if _ then _ else _)=_
 rw [if_pos h]
 simp
theorem Ha (l:List Nat) (c:Nat) (hc:c < 256) (s:St):(lim prog).call Ay [.s l,.i .u8 (c:Int)] s=some (.i .i64 (idxB c 0 l),s):=by
 refine fn_W Eo rfl rfl ?_
 simp only [Az,go_sem,Cr,Aq,Al,Ar,Cl,KB_n,KB_x,Nat.reduceBEq,Nat.reduceAdd,Nat.reduceLT,Nat.reduceLeDiff,Nat.reduceEqDiff,reduceIte,Int.reduceEq,reduceCtorEq,ext0 _ l c hc]
 exact AL (Over.enter s) rfl rfl
theorem LV (l:List Nat) (c:Nat) (hc:c < 256) (s:St):(lim prog).call DZ [.s l,.i .u8 (c:Int)] s=some (.i .i64 (idxB c 0 l),s):=by
 refine fn_W Jh rfl rfl ?_
 simp only [Cu,go_sem,Cr,Aq,Al,Ar,Cl,KB_n,KB_x,Nat.reduceBEq,Nat.reduceAdd,Nat.reduceLT,Nat.reduceLeDiff,Nat.reduceEqDiff,reduceIte,Int.reduceEq,reduceCtorEq,Ha l c hc]
 exact AL (Over.enter s) rfl rfl
theorem UR:CX (.i .i64 0)=some 0:=rfl
theorem US (l:List Nat) (c:Nat) (hc:c < 256) (s:St):(lim prog).call Ch [.s l,.s [c]] s=some (.i .i64 (idxB c 0 l),s):=by
 refine fn_W Fd rfl rfl ?_
 have h1:(((List.length [c]:Nat):Int)=0)=False:=by simp
 have h2:(((List.length [c]:Nat):Int)=1)=True:=by simp
 simp only [BC,go_sem,Cr,Aq,Al,Ar,Cl,KB_n,KB_x,Nat.reduceBEq,Nat.reduceAdd,Nat.reduceLT,Nat.reduceLeDiff,Nat.reduceEqDiff,reduceIte,Int.reduceEq,reduceCtorEq,Dy,h1,UR,h2]
 have hk:KR s [CT.id] (.i .i64 (idxB c 0 l)) (some ([.i .i64 (idxB c 0 l)],s.enter)):=AL (Over.enter s) rfl rfl
 by_cases hl:[c]=l
 · subst hl
   simp only [go_sem,Cr,Aq,Al,Ar,Cl,KB_n,KB_x,Nat.reduceBEq,Nat.reduceAdd,Nat.reduceLT,Nat.reduceLeDiff,Nat.reduceEqDiff,reduceIte,Int.reduceEq,reduceCtorEq,Dy,h1,UR,h2,eq_self,Ha _ c hc]
   exact AL (Over.enter s) rfl (by simp [BE,wkZ,wk,idxB])
 · have hl':([c]=l)=False:=by simp [hl]
   simp only [go_sem,Cr,Aq,Al,Ar,Cl,KB_n,KB_x,Nat.reduceBEq,Nat.reduceAdd,Nat.reduceLT,Nat.reduceLeDiff,Nat.reduceEqDiff,reduceIte,Int.reduceEq,reduceCtorEq,Dy,h1,UR,h2,hl',Ha _ c hc]
   exact hk
theorem V7 (l:List Nat) (c:Nat) (hc:c < 256) (s:St):(lim prog).call F0 [.s l,.s [c]] s=some (.i .i64 (idxB c 0 l),s):=by
 refine fn_W Mb rfl rfl ?_
 simp only [Du,go_sem,Cr,Aq,Al,Ar,Cl,KB_n,KB_x,Nat.reduceBEq,Nat.reduceAdd,Nat.reduceLT,Nat.reduceLeDiff,Nat.reduceEqDiff,reduceIte,Int.reduceEq,reduceCtorEq,US l c hc]
 exact AL (Over.enter s) rfl rfl

theorem u8N {n:Nat} (h:n < 256):(UInt8.ofNat n).toNat=n:=by simp [UInt8.toNat_ofNat']; omega
theorem PZ (r:Int) (s:St):(lim prog).call DN [.i .i32 r] s=some (.b (Utf8.valid r),s):=by
 refine fn_W Gy rfl rfl ?_
 simp only [Bk,go_sem,Cr,Aq,Al,Ar,Cl,KB_n,KB_x,Nat.reduceBEq,Nat.reduceAdd,Nat.reduceLT,Nat.reduceLeDiff,Nat.reduceEqDiff,reduceIte,Int.reduceEq,reduceCtorEq]
 by_cases h0:0≤r
 · by_cases h1:r < 55296
   · simp only [go_sem,Cr,Aq,Al,Ar,Cl,KB_n,KB_x,Nat.reduceBEq,Nat.reduceAdd,Nat.reduceLT,Nat.reduceLeDiff,Nat.reduceEqDiff,reduceIte,Int.reduceEq,reduceCtorEq,h0,h1]
     exact AL (Over.enter s) rfl (by simp [BE,wkZ,wk,Utf8.valid,h0,h1])
   · by_cases h2:57343 < r
     · by_cases h3:r≤1114111
       · simp only [go_sem,Cr,Aq,Al,Ar,Cl,KB_n,KB_x,Nat.reduceBEq,Nat.reduceAdd,Nat.reduceLT,Nat.reduceLeDiff,Nat.reduceEqDiff,reduceIte,Int.reduceEq,reduceCtorEq,h0,h1,h2,h3]
         refine AL (Over.enter s) rfl ?_
         have h4:57344≤r:=by omega
         simp [BE,wkZ,wk,Utf8.valid,h3,h4]
       · simp only [go_sem,Cr,Aq,Al,Ar,Cl,KB_n,KB_x,Nat.reduceBEq,Nat.reduceAdd,Nat.reduceLT,Nat.reduceLeDiff,Nat.reduceEqDiff,reduceIte,Int.reduceEq,reduceCtorEq,h0,h1,h2,h3]
         refine AL (Over.enter s) rfl ?_
         simp [BE,wkZ,wk,Utf8.valid,h1,h3]
     · simp only [go_sem,Cr,Aq,Al,Ar,Cl,KB_n,KB_x,Nat.reduceBEq,Nat.reduceAdd,Nat.reduceLT,Nat.reduceLeDiff,Nat.reduceEqDiff,reduceIte,Int.reduceEq,reduceCtorEq,h0,h1,h2]
       refine AL (Over.enter s) rfl ?_
       have h4:¬ 57344≤r:=by omega
       simp [BE,wkZ,wk,Utf8.valid,h1,h4]
 · have h2:¬ 57343 < r:=by omega
   simp only [go_sem,Cr,Aq,Al,Ar,Cl,KB_n,KB_x,Nat.reduceBEq,Nat.reduceAdd,Nat.reduceLT,Nat.reduceLeDiff,Nat.reduceEqDiff,reduceIte,Int.reduceEq,reduceCtorEq,h0,h2]
   refine AL (Over.enter s) rfl ?_
   have h4:¬ 57344≤r:=by omega
   simp [BE,wkZ,wk,Utf8.valid,h0,h4]
abbrev K3:List Nat:=[47,0,10]
theorem Pa (i:Nat):CX (.i .i64 (i:Int))=some i:=AG _ i
theorem w1:IntKind.i64.wrap (2 - 1)=1:=rfl
theorem w2:IntKind.i64.wrap (3 - 1)=2:=rfl
theorem w3:IntKind.i64.wrap (4 - 1)=3:=rfl
theorem w4:IntKind.i64.wrap (1+1)=2:=rfl
theorem w5:IntKind.i64.wrap (2+1)=3:=rfl

abbrev bs (B:List Bool):List AV:=B.map AV.b
section
variable {s:St} {id T n:Nat}
theorem UT (s:St):∀ B:List Bool,pubL s (bs B)=some (bs B,s)
 | []=>rfl
 | b::B=>by
   simp only [bs,List.map_cons,pubL,Te]
   rw [UT s B]
theorem UU (s:St):∀ B:List Bool,frzL s (bs B)=some (bs B,s)
 | []=>rfl
 | b::B=>by
   simp only [bs,List.map_cons,frzL,frz,Te]
   rw [UU s B]
theorem UV:∀ B:List Bool,ones (bs B)=true
 | []=>rfl
 | b::B=>by
   simp only [bs,List.map_cons,ones]
   exact UV B
theorem QT:∀ B:List Bool,AV.refs.go (bs B)=false
 | []=>rfl
 | b::B=>by
   simp only [bs,List.map_cons,AV.refs.go,AV.refs,Bool.false_or]
   exact QT B
theorem bs_wk:∀ (n:Nat) (B:List Bool),wkZ (List.replicate n .id) (bs B)=bs B
 | 0,B=>by simp [wkZ]
 | n+1,[]=>by simp [wkZ]
 | n+1,b::B=>by
   have:=bs_wk n B
   simp only [bs,List.map_cons,List.replicate_succ,wkZ,wk] at this ⊢
   rw [this]
theorem bs_ld {B:List Bool} (h:s.box? id=some (.cells T (bs B))) (hn:B.length=n):ldA s true n (.p id 0)=some (.agg (bs B)):=by
 have:cut (bs B) 0 n=some (bs B):=by
  have e:(bs B).take n=bs B:=List.take_of_length_le (by simp; omega)
  have e2:(bs B).length=n:=by simpa using hn
  simp only [cut,List.drop_zero,e,e2,if_true]
 simp only [ldA,St.cells?,h,this,scal]
theorem bs_ld1 {B:List Bool} {i:Nat} {b:Bool} (h:s.box? id=some (.cells T (bs B))) (hi:B[i]? = some b):ldA s false 1 (.p id i)=some (.b b):=by
 exact Er h (by simp [hi])
theorem bs_st {B B':List Bool} (h:s.box? id=some (.cells T (bs B'))) (hn:B.length=n) (hn':B'.length=n):stA s n (.p id 0) (.agg (bs B))=some (s.setBox id (.cells T (bs B))):=by
 have h1:(AV.agg (bs B)).cells=bs B:=rfl
 have h2:(bs B).length=n:=by simpa using hn
 have h3:over (bs B') 0 (bs B)=some (bs B):=by
  unfold over
  rw [if_pos (by simp; omega)]
  simp [hn,hn']
 simp only [stA,h,h1,h2,UV,and_self,if_true,h3,esc]
 have h4:(AV.agg (bs B)).refs=false:=by simp only [AV.refs]; exact QT B
 rw [h4]
 rfl
theorem bs_st1 {B:List Bool} {i:Nat} (h:s.box? id=some (.cells T (bs B))) (hi:i < B.length):stA s 1 (.p id i) (.b true)=some (s.setBox id (.cells T (bs (B.set i true)))):=by
 rw [RL h rfl rfl (by simpa using hi)]
 have:(bs B).set i (.b true)=bs (B.set i true):=by simp [bs,List.map_set]
 rw [this]
 rfl
end
def F256:List Bool:=List.replicate 256 false
abbrev Z256:List AV:=bs F256
theorem len0:F256.length=256:=by simp [F256]
theorem YZ:A1.body =
 (.seq (.reg [⟨(some 2),.alloc 184 Z256,none⟩,
  ⟨(some 3),.mv (.c (.b false)),none⟩])
 (.seq (.seq (.reg [⟨(some 4),.mv (.c (.i .i64 0)),none⟩])
 (.blk 0 (.loop (.seq (.seq (.reg [⟨(some 6),.mv (.t 4),none⟩,
     ⟨(some 7),.mv (.t 0),none⟩,
     ⟨(some 8),.len 0 (.t 7),none⟩,
     ⟨(some 9),.bin .lss (.t 6) (.t 8),none⟩])
  (.cond (.t 9)
   .skip
   (.exit 0)))
  (.seq (.blk 1 (.seq (.reg [⟨(some 12),.mv (.t 0),none⟩,
     ⟨(some 13),.mv (.t 4),none⟩,
     ⟨(some 14),.ixS (.t 12) (.t 13),none⟩,
     ⟨(some 5),.mv (.t 14),none⟩])
   (.seq (.seq (.reg [⟨(some 15),.mv (.t 5),none⟩,
    ⟨(some 16),.bin .geq (.t 15) (.c (.i .u8 128)),none⟩])
   (.cond (.t 16)
    (.seq (.reg [⟨(some 17),.ld true 256 (.t 2),none⟩,
     ⟨none,.st 256 (.t 2) (.t 17),none⟩,
     ⟨(some 3),.mv (.c (.b false)),none⟩])
    .ret)
    .skip))
   (.reg [⟨(some 18),.mv (.t 5),none⟩,
    ⟨(some 19),.iaA 256 1 (.t 2) (.t 18),none⟩,
    ⟨none,.st 1 (.t 19) (.c (.b true)),none⟩]))))
  (.reg [⟨(some 10),.mv (.t 4),none⟩,
   ⟨(some 11),.bin .add (.t 10) (.c (.i .i64 1)),none⟩,
   ⟨(some 4),.mv (.t 11),none⟩]))))))
 (.seq (.reg [⟨(some 20),.ld true 256 (.t 2),none⟩,
  ⟨none,.st 256 (.t 2) (.t 20),none⟩,
  ⟨(some 3),.mv (.c (.b true)),none⟩])
 .ret))):=by rfl
theorem Ya:BX.body =
 (.seq (.reg [⟨(some 4),.mv (.c (.i .i64 0)),none⟩])
 (.seq (.seq (.reg [⟨(some 11),.mv (.t 1),none⟩,
  ⟨(some 12),.bin .eql (.t 11) (.c (.s [])),none⟩])
 (.cond (.t 12)
  (.seq (.reg [⟨(some 4),.mv (.c (.i .i64 (-1))),none⟩])
  .ret)
  .skip))
 (.seq (.seq (.reg [⟨(some 13),.mv (.t 1),none⟩,
  ⟨(some 14),.len 0 (.t 13),none⟩,
  ⟨(some 15),.bin .eql (.t 14) (.c (.i .i64 1)),none⟩])
 (.cond (.t 15)
  (.seq (.reg [⟨(some 16),.mv (.t 1),none⟩,
   ⟨(some 17),.ixS (.t 16) (.c (.i .i64 0)),none⟩,
   ⟨(some 18),.cvI .i32 (.t 17),none⟩,
   ⟨(some 5),.mv (.t 18),none⟩])
  (.seq (.seq (.reg [⟨(some 19),.mv (.t 5),none⟩,
   ⟨(some 20),.bin .geq (.t 19) (.c (.i .i32 128)),none⟩])
  (.cond (.t 20)
   (.reg [⟨(some 5),.mv (.c (.i .i32 65533)),none⟩])
   .skip))
  (.seq (.reg [⟨(some 21),.mv (.t 0),none⟩,
   ⟨(some 22),.mv (.t 5),none⟩,
   ⟨(some 23),.call B9 [(.t 21),(.t 22)],none⟩,
   ⟨(some 4),.mv (.t 23),none⟩])
  .ret)))
  .skip))
 (.seq (.seq (.reg [⟨(some 24),.mv (.t 0),none⟩,
  ⟨(some 25),.len 0 (.t 24),none⟩,
  ⟨(some 26),.call Br [(.t 25)],none⟩])
 (.cond (.t 26)
  (.seq (.reg [⟨(some 28),.mv (.t 1),none⟩,
   ⟨(some 29),.call C2 [(.t 28)],none⟩,
   ⟨(some 27),.mv (.t 29),none⟩,
   ⟨(some 30),.ext (.t 27) 0,none⟩,
   ⟨(some 31),.ext (.t 27) 1,none⟩,
   ⟨(some 6),.alloc 184 Z256,none⟩,
   ⟨none,.st 256 (.t 6) (.t 30),none⟩,
   ⟨(some 7),.mv (.t 31),none⟩])
  (.seq (.reg [⟨(some 32),.mv (.t 7),none⟩])
  (.cond (.t 32)
   (.seq (.seq (.reg [⟨(some 8),.mv (.c (.i .i64 0)),none⟩])
   (.blk 0 (.loop (.seq (.seq (.reg [⟨(some 33),.mv (.t 8),none⟩,
       ⟨(some 34),.mv (.t 0),none⟩,
       ⟨(some 35),.len 0 (.t 34),none⟩,
       ⟨(some 36),.bin .lss (.t 33) (.t 35),none⟩])
    (.cond (.t 36)
     .skip
     (.exit 0)))
    (.seq (.blk 1 (.seq (.reg [⟨(some 39),.mv (.t 0),none⟩,
       ⟨(some 40),.mv (.t 8),none⟩,
       ⟨(some 41),.ixS (.t 39) (.t 40),none⟩,
       ⟨(some 42),.call Bs [(.t 6),(.t 41)],none⟩])
     (.cond (.t 42)
      (.seq (.reg [⟨(some 43),.mv (.t 8),none⟩,
       ⟨(some 4),.mv (.t 43),none⟩])
      .ret)
      .skip)))
    (.reg [⟨(some 37),.mv (.t 8),none⟩,
     ⟨(some 38),.bin .add (.t 37) (.c (.i .i64 1)),none⟩,
     ⟨(some 8),.mv (.t 38),none⟩]))))))
   (.seq (.reg [⟨(some 4),.mv (.c (.i .i64 (-1))),none⟩])
   .ret))
   .skip)))
  .skip))
 (.seq (.seq (.reg [⟨(some 44),.mv (.t 0),none⟩,
  ⟨(some 45),.siter (.t 44),none⟩])
 (.blk 2 (.loop (.seq (.reg [⟨(some 46),.snext (.t 45),none⟩,
     ⟨(some 47),.ext (.t 46) 0,none⟩])
  (.seq (.cond (.t 47)
   .skip
   (.exit 2))
  (.blk 3 (.seq (.reg [⟨(some 48),.ext (.t 46) 1,none⟩,
     ⟨(some 49),.ext (.t 46) 2,none⟩,
     ⟨(some 9),.mv (.t 48),none⟩,
     ⟨(some 10),.mv (.t 49),none⟩])
   (.seq (.reg [⟨(some 50),.mv (.t 1),none⟩,
    ⟨(some 51),.mv (.t 10),none⟩,
    ⟨(some 52),.call B9 [(.t 50),(.t 51)],none⟩,
    ⟨(some 53),.bin .geq (.t 52) (.c (.i .i64 0)),none⟩])
   (.cond (.t 53)
    (.seq (.reg [⟨(some 54),.mv (.t 9),none⟩,
     ⟨(some 4),.mv (.t 54),none⟩])
    .ret)
    .skip)))))))))
 (.seq (.reg [⟨(some 4),.mv (.c (.i .i64 (-1))),none⟩])
 .ret)))))):=by rfl
theorem Yb:A1.cout=[.agg (List.replicate 256 .id),.id]:=by rfl
theorem Rh (n:Nat):CX (.i .u8 (n:Int))=some n:=AG _ n
theorem QU {s:St} {id T:Nat} {B:List Bool} (h:s.box? id=some (.cells T (bs B))) {c:Nat} (hc:c < 256) {b:Bool} (hb:B[c]? = some b):(lim prog).call Bs [.p id 0,.i .u8 (c:Int)] s=some (.b b,s):=by
 refine fn_W F5 rfl rfl ?_
 have hl:ldA s.enter false 1 (.p id c)=some (.b b):=bs_ld1 (s:=s.enter) h hb
 have hlt:(c < 256)=True:=by simp [hc]
 simp only [BN,go_sem,Cr,Aq,Al,Ar,Cl,KB_n,KB_x,Nat.reduceBEq,Nat.reduceAdd,Nat.reduceLT,Nat.reduceLeDiff,Nat.reduceEqDiff,reduceIte,Int.reduceEq,reduceCtorEq,Rh,hlt,Nat.mul_one,Nat.zero_add,hl]
 exact AL (Over.enter s) rfl rfl
end Go.Proofs.YtmnbfgfgjmmhfaaGreatDoor

namespace Go.Proofs.YtmnbfgfgjmmhfaaGreatDoor
open Go.Proofs.YtmnbfgfgjmmhfaaGreatDoor.Am
theorem V8 (s:ByteArray) (pos:Nat) (h:pos < s.size) (ha:128≤(s.get! (pos+0)).toNat):pos+(Utf8.decode s pos).2≤s.size∧∀ k,k < (Utf8.decode s pos).2→128≤(s.get! (pos+k)).toNat:=by
 have hn:¬ (s.get! (pos+0)).toNat < 128:=by omega
 simp only [Utf8.decode,hn,if_false]
 split
 · rename_i h1
   simp only [Bool.and_eq_true,beq_iff_eq,decide_eq_true_eq] at h1
   split
   · refine ⟨by simp only; omega,fun k hk=>?_⟩
     have:k=0∨k=1:=by simp only at hk; omega
     rcases this with rfl | rfl<;>omega
   · refine ⟨by simp only; omega,fun k hk=>?_⟩
     have:k=0:=by simp only at hk; omega
     subst this; omega
 · split
   · rename_i h1
     simp only [Bool.and_eq_true,beq_iff_eq,decide_eq_true_eq] at h1
     split
     · refine ⟨by simp only; omega,fun k hk=>?_⟩
       have:k=0∨k=1∨k=2:=by simp only at hk; omega
       rcases this with rfl | rfl | rfl<;>omega
     · refine ⟨by simp only; omega,fun k hk=>?_⟩
       have:k=0:=by simp only at hk; omega
       subst this; omega
   · split
     · rename_i h1
       simp only [Bool.and_eq_true,beq_iff_eq,decide_eq_true_eq] at h1
       split
       · refine ⟨by simp only; omega,fun k hk=>?_⟩
         have:k=0∨k=1∨k=2∨k=3:=by simp only at hk; omega
         rcases this with rfl | rfl | rfl | rfl<;>omega
       · refine ⟨by simp only; omega,fun k hk=>?_⟩
         have:k=0:=by simp only at hk; omega
         subst this; omega
     · refine ⟨by simp only; omega,fun k hk=>?_⟩
       have:k=0:=by simp only at hk; omega
       subst this; omega
theorem bytes_get {l:List Nat} (hl:∀ n∈l,n < 256) {i:Nat} (h:i < l.length):((⟨(l.map UInt8.ofNat).toArray⟩:ByteArray).get! i).toNat=l[i]:=by
 have h1:i < (l.map UInt8.ofNat).toArray.size:=by simpa using h
 have:(⟨(l.map UInt8.ofNat).toArray⟩:ByteArray).get! i=UInt8.ofNat l[i]:=by
  show (l.map UInt8.ofNat).toArray[i]! = _
  rw [getElem!_pos _ i h1]
  simp
 rw [this,u8N (hl _ (List.getElem_mem h))]
theorem bytes_size (l:List Nat):(⟨(l.map UInt8.ofNat).toArray⟩:ByteArray).size=l.length:=by
 show (l.map UInt8.ofNat).toArray.size=_
 simp
theorem V9 {l:List Nat} (hl:∀ n∈l,n < 256) {pos:Nat} (h:pos < l.length) (hc:128≤l[pos]) :
    ∃ r w,Utf8.decode ⟨(l.map UInt8.ofNat).toArray⟩ pos=(r,w)∧128≤r∧r≤2147483647∧1≤w∧pos+w≤l.length∧∀ k (hk:k < l.length),pos≤k→k < pos+w→128≤l[k]:=by
 have hs:=bytes_size l
 have hg:=bytes_get hl h
 have hps:pos < (⟨(l.map UInt8.ofNat).toArray⟩:ByteArray).size:=by rw [hs]; exact h
 have hge:=get_at (⟨(l.map UInt8.ofNat).toArray⟩:ByteArray) pos hps
 have ha:128≤((⟨(l.map UInt8.ofNat).toArray⟩:ByteArray).get! (pos+0)).toNat:=by rw [Nat.add_zero,hg]; exact hc
 have h1:=decode_high (⟨(l.map UInt8.ofNat).toArray⟩:ByteArray) pos hps (by rw [← hge]; exact ha)
 have h2:=decode_le (⟨(l.map UInt8.ofNat).toArray⟩:ByteArray) pos
 have h3:=V8 (⟨(l.map UInt8.ofNat).toArray⟩:ByteArray) pos hps ha
 rw [hs] at h3
 obtain ⟨⟨r,w⟩,hrw⟩:∃ x,Utf8.decode (⟨(l.map UInt8.ofNat).toArray⟩:ByteArray) pos=x:=⟨_,rfl⟩
 rw [hrw] at h1 h2 h3
 simp only at h1 h2 h3
 refine ⟨r,w,hrw,h1.1,h2,h1.2,h3.1,fun k hk h4 h5=>?_⟩
 have h6:=h3.2 (k - pos) (by omega)
 rw [show pos+(k - pos)=k by omega,bytes_get hl hk] at h6
 exact h6
theorem LW (n:Int) (s:St):(lim prog).call Br [.i .i64 n] s=some (.b (decide (8 < n)),s):=by
 refine fn_W F4 rfl rfl ?_
 simp only [BM,go_sem,Cr,Aq,Al,Ar,Cl,KB_n,KB_x,Nat.reduceBEq,Nat.reduceAdd,Nat.reduceLT,Nat.reduceLeDiff,Nat.reduceEqDiff,reduceIte,Int.reduceEq,reduceCtorEq]
 exact AL (Over.enter s) rfl rfl

set_option maxHeartbeats 4000000
attribute [local irreducible] W WO WE WQ WD Tr.get Tr.set
structure AsK (K:List Nat):Prop where
 lt:∀ c∈K,c < 128
 four:4≤K.length
 len:K.length < 2^30
def PV (K:List Nat) (r:Int):Int:=if r < 128 then idxB r.toNat 0 K else -1
theorem UO {r:Int} (h0:128≤r) (hv:Utf8.valid r=true):∃ l b,encN r=l++[b]∧1≤l.length∧l.length≤3∧128≤b∧b < 256:=by
 have hr:r≤1114111:=by
  simp only [Utf8.valid,Bool.or_eq_true,Bool.and_eq_true,decide_eq_true_eq] at hv
  omega
 obtain ⟨n,rfl⟩:∃ n:Nat,r=n:=⟨r.toNat,by omega⟩
 simp only [encN,Utf8.encode,hv,if_true,Int.toNat_natCast]
 by_cases h1:n < 128
 · omega
 rw [if_neg h1]
 have key:∀ m:Nat,128≤m→m < 256→128≤(UInt8.ofNat m).toNat∧(UInt8.ofNat m).toNat < 256:=fun m a b=>by rw [u8N b]; exact ⟨a,b⟩
 by_cases h2:n < 2048
 · rw [if_pos h2]
   exact ⟨[_],_,rfl,by simp,by simp,key _ (by omega) (by omega)⟩
 rw [if_neg h2]
 by_cases h3:n < 65536
 · rw [if_pos h3]
   exact ⟨[_,_],_,rfl,by simp,by simp,key _ (by omega) (by omega)⟩
 rw [if_neg h3]
 exact ⟨[_,_,_],_,rfl,by simp,by simp,key _ (by omega) (by omega)⟩
theorem Kf {K:List Nat} (hK:AsK K) (r:Int) (h0:0≤r) (h1:r≤2147483647) (s:St):(lim prog).call B9 [.s K,.i .i32 r] s=some (.i .i64 (PV K r),s):=by
 refine fn_W Jg rfl rfl ?_
 have h0':((0:Int)≤r)=True:=by simp [h0]
 have hkl:=hK.len
 have hk4:=hK.four
 by_cases hr:r < 128
 · have hr':(r < 128)=True:=by simp [hr]
   obtain ⟨n,rfl⟩:∃ n:Nat,r=n:=⟨r.toNat,by omega⟩
   have hw:IntKind.u8.wrap (n:Int)=(n:Int):=by
    have e:(n:Int) % 2^8=n:=by omega
    simp only [IntKind.wrap,IntKind.signed,IntKind.bits,e]
    rfl
   simp only [BJ,go_sem,AD,AA,AC,AB,KB_n,KB_x,Nat.reduceBEq,Nat.reduceAdd,Nat.reduceLT,Nat.reduceLeDiff,Nat.reduceEqDiff,reduceIte,Int.reduceEq,reduceCtorEq,h0',hr',hw,LV K n (by omega)]
   exact AL (Over.enter s) rfl (by simp [BE,wkZ,wk,PV,hr])
 · have hr':(r < 128)=False:=by simp [hr]
   have hP:PV K r = -1:=by unfold PV; rw [if_neg hr]
   by_cases he:r=65533
   · have he':(r=65533)=True:=by simp [he]
     simp only [BJ,go_sem,AD,AA,AC,AB,KB_n,KB_x,Nat.reduceBEq,Nat.reduceAdd,Nat.reduceLT,Nat.reduceLeDiff,Nat.reduceEqDiff,reduceIte,Int.reduceEq,reduceCtorEq,h0',hr',he']
     refine BP (fun n e q=>∃ p:Nat,p+n=K.length∧q=s.enter.new (.siter K p)∧e.get 175=.p s.enter.nb 0) ?_ K.length _ _ ?_
     · rintro n e q ⟨p,hp,rfl,g⟩
       have hs:∀ p',(s.enter.new (.siter K p)).setBox s.enter.nb (.siter K p')=s.enter.new (.siter K p'):=fun p'=>MR _ _ _
       have hov:=fun p=>((Over.enter s).new (.siter K p))
       by_cases hlt:p < K.length
       · have hget:K[p]? = some K[p]:=List.getElem?_eq_getElem hlt
         have h128:=hK.lt K[p] (List.getElem_mem hlt)
         have h128':(K[p] < 128)=True:=by simp [h128]
         have hne:((Int.ofNat K[p]:Int)=65533)=False:=by simp only [eq_iff_iff,iff_false]; show ¬ ((K[p]:Nat):Int)=65533; omega
         have hne2:(((K[p]:Nat):Int)=65533)=False:=eq_false (by omega)
         simp only [go_sem,AD,AA,AC,AB,KB_n,KB_x,Nat.reduceBEq,Nat.reduceAdd,Nat.reduceLT,Nat.reduceLeDiff,Nat.reduceEqDiff,reduceIte,Int.reduceEq,reduceCtorEq,g,hget,h128',hne,hne2,hs]
         exact ⟨n - 1,by omega,p+1,by omega,rfl⟩
       · have hget:K[p]? = none:=List.getElem?_eq_none (by omega)
         simp only [go_sem,AD,AA,AC,AB,KB_n,KB_x,Nat.reduceBEq,Nat.reduceAdd,Nat.reduceLT,Nat.reduceLeDiff,Nat.reduceEqDiff,reduceIte,Int.reduceEq,reduceCtorEq,g,hget]
         exact AL (hov p) rfl (by rw [hP]; rfl)
     · simp only [go_sem,AD,AA,AC,AB,KB_n,KB_x,Nat.reduceBEq,Nat.reduceAdd,Nat.reduceLT,Nat.reduceLeDiff,Nat.reduceEqDiff,reduceIte,Int.reduceEq,reduceCtorEq]
       exact ⟨0,by omega,rfl⟩
   · have he':(r=65533)=False:=by simp [he]
     have hv:=PZ r
     cases hvr:Utf8.valid r with
     | false =>
       rw [hvr] at hv
       simp only [BJ,go_sem,AD,AA,AC,AB,KB_n,KB_x,Nat.reduceBEq,Nat.reduceAdd,Nat.reduceLT,Nat.reduceLeDiff,Nat.reduceEqDiff,reduceIte,Int.reduceEq,reduceCtorEq,h0',hr',he',hv]
       exact AL (Over.enter s) rfl (by rw [hP]; rfl)
     | true =>
       rw [hvr] at hv
       obtain ⟨l,b,h2,hl1,hl3,hb1,hb2⟩:=UO (show 128≤r by omega) hvr
       have hlen:(l++[b]).length=l.length+1:=by simp
       have hsub:IntKind.i64.wrap (((l.length+1:Nat):Int) - 1)=(l.length:Nat):=by
        rw [show ((l.length+1:Nat):Int) - 1=(l.length:Nat) by omega]; exact GO (by omega)
       simp only [BJ,go_sem,AD,AA,AC,AB,KB_n,KB_x,Nat.reduceBEq,Nat.reduceAdd,Nat.reduceLT,Nat.reduceLeDiff,Nat.reduceEqDiff,reduceIte,Int.reduceEq,reduceCtorEq,h0',hr',he',hv,h2,hlen,hsub]
       refine BP (fun n e q=>q=s.enter∧e.get 0=.s K∧e.get 7=.s (l++[b])∧e.get 8=.i .i64 (l.length:Nat)∧e.get 9=.i .i64 (l.length:Nat)) ?_ 0 _ _ ?_
       · rintro n e q ⟨rfl,g0,g7,g8,g9⟩
         have c1:((l.length:Int) < (K.length:Int))=True:=eq_true (by omega)
         have hlt:l.length < K.length:=by omega
         have hget:K[l.length]? = some K[l.length]:=List.getElem?_eq_getElem hlt
         have h128:=hK.lt K[l.length] (List.getElem_mem hlt)
         have hgb:(l++[b])[l.length]? = some b:=by simp
         have c2:(((K[l.length]:Nat):Int)≠(b:Int))=True:=by simp only [ne_eq,eq_iff_iff,iff_true]; omega
         have hix:=LV (K.drop (l.length+1)) b hb2 s.enter
         have hmiss:idxB b 0 (K.drop (l.length+1)) = -1:=PY fun hm=>by
          have:=hK.lt b (List.mem_of_mem_drop hm)
          omega
         rw [hmiss] at hix
         have w4:IntKind.i64.wrap ((l.length:Int)+1)=((l.length+1:Nat):Int):=AR (by omega)
         have hb:Ck K.length (some (.i .i64 ((l.length+1:Nat):Int))) none=some (l.length+1,K.length):=by
          simp only [Ck,AG]
          rw [if_pos ⟨by omega,Nat.le_refl _⟩]
         have hd:((K.drop (l.length+1)).take (K.length - (l.length+1)))=K.drop (l.length+1):=List.take_of_length_le (by simp)
         have hm1:((-1:Int) < 0)=True:=by simp
         simp only [go_sem,AD,AA,AC,AB,KB_n,KB_x,Nat.reduceBEq,Nat.reduceAdd,Nat.reduceLT,Nat.reduceLeDiff,Nat.reduceEqDiff,reduceIte,Int.reduceEq,reduceCtorEq,g0,g7,g8,g9,c1,AG,hget,hgb,c2,w4,hb,hd,hix,hm1]
         exact AL (Over.enter s) rfl (by rw [hP]; rfl)
       · simp only [go_sem,AD,AA,AC,AB,KB_n,KB_x,Nat.reduceBEq,Nat.reduceAdd,Nat.reduceLT,Nat.reduceLeDiff,Nat.reduceEqDiff,reduceIte,Int.reduceEq,reduceCtorEq,and_self]
def BK (K:List Nat):List Bool:=K.foldl (fun B c=>B.set c true) F256
theorem Rf (K:List Nat) (B:List Bool):(K.foldl (fun B c=>B.set c true) B).length=B.length:=by
 induction K generalizing B with
 | nil=>rfl
 | cons c K ih=>rw [List.foldl_cons,ih]; simp
theorem fold_get (K:List Nat):∀ (B:List Bool) {c:Nat},c < B.length→(K.foldl (fun B c=>B.set c true) B)[c]? = some (decide (c∈K)||B[c]?.getD false):=by
 induction K with
 | nil=>intro B c h; simp [List.getElem?_eq_getElem h]
 | cons a K ih =>
   intro B c h
   rw [List.foldl_cons,ih (B.set a true) (by simpa using h),List.getElem?_set]
   by_cases e:a=c
   · subst e; simp [h]
   · have:¬ c=a:=fun hh=>e hh.symm
     simp [e,this]
theorem PW (K:List Nat):(BK K).length=256:=by rw [BK,Rf,len0]
theorem bk_get (K:List Nat) {c:Nat} (h:c < 256):(BK K)[c]? = some (decide (c∈K)):=by
 rw [BK,fold_get K F256 (by rw [len0]; exact h)]
 have:F256[c]?.getD false=false:=by
  show (List.replicate 256 false)[c]?.getD false=false
  rw [List.getElem?_replicate]
  split<;>rfl
 rw [this,Bool.or_false]
theorem mkK_ok {K:List Nat} (hK:AsK K) (s:St) (hw:Wf s):(lim prog).call C2 [.s K] s=some (.tup [.agg (bs (BK K)),.b true],s):=by
 refine fn_W H0 rfl rfl ?_
 have hcin:A1.cin=[.id]:=rfl
 have hz0:wkZ [.id] [AV.s K]=[.s K]:=by simp [wkZ,wk]
 rw [YZ,Yb,hcin,hz0]
 have hkl:=hK.len
 have hnb:s.enter.nb=s.nb:=rfl
 have hset:∀ B B',(s.enter.new (.cells 184 (bs B))).setBox s.nb (.cells 184 (bs B'))=s.enter.new (.cells 184 (bs B')):=fun B B'=>MR s.enter _ _
 have hb:∀ B,(s.enter.new (.cells 184 (bs B))).box? s.nb=some (.cells 184 (bs B)):=fun B=>BW s.enter _
 have la:=bs_ld (hb (BK K)) (PW K)
 have st:=bs_st (hb (BK K)) (PW K) (PW K)
 rw [hset] at st
 have hres:A1.res=[(2,some (true,256)),(3,none)]:=rfl
 have hpl:=UT (s.enter.new (.cells 184 (bs (BK K)))) (BK K)
 have hfl:=UU (s.enter.new (.cells 184 (bs (BK K)))) (BK K)
 have ov:Over s (s.enter.new (.cells 184 (bs (BK K)))):=(Over.enter s).new _
 rw [hres]
 simp only [go_sem,Cr,Aq,Al,Ar,Cl,KB_n,KB_x,Nat.reduceBEq,Nat.reduceAdd,Nat.reduceLT,Nat.reduceLeDiff,Nat.reduceEqDiff,reduceIte,Int.reduceEq,reduceCtorEq,hnb]
 refine BP (fun n e q=>e.get 0=.s K∧e.get 2=.p s.nb 0∧∃ p:Nat,p+n=K.length∧e.get 4=.i .i64 p∧q=s.enter.new (.cells 184 (bs ((K.take p).foldl (fun B c=>B.set c true) F256)))) ?_ K.length _ _ ?_
 · rintro n e q ⟨g0,g2,p,hp,g4,rfl⟩
   by_cases hlt:p < K.length
   · have hget:K[p]? = some K[p]:=List.getElem?_eq_getElem hlt
     have h128:=hK.lt K[p] (List.getElem_mem hlt)
     have c1:((p:Int) < (K.length:Int))=True:=eq_true (by omega)
     have c2:((128:Int)≤((K[p]:Nat):Int))=False:=eq_false (by omega)
     have hw1:=AR (show p+1 < 2^63 by omega)
     have c3:(K[p] < 256)=True:=eq_true (by omega)
     have hln:((K.take p).foldl (fun B c=>B.set c true) F256).length=256:=by rw [Rf,len0]
     have s1:=bs_st1 (i:=K[p]) (hb ((K.take p).foldl (fun B c=>B.set c true) F256)) (by rw [hln]; omega)
     rw [hset] at s1
     have hx:((K.take p).foldl (fun B c=>B.set c true) F256).set K[p] true=(K.take (p+1)).foldl (fun B c=>B.set c true) F256:=by
      rw [List.take_succ_eq_append_getElem hlt,List.foldl_append]; rfl
     rw [hx] at s1
     simp only [go_sem,Cr,Aq,Al,Ar,Cl,KB_n,KB_x,Nat.reduceBEq,Nat.reduceAdd,Nat.reduceLT,Nat.reduceLeDiff,Nat.reduceEqDiff,reduceIte,Int.reduceEq,reduceCtorEq,g0,g2,g4,Dy,c1,Pa,hget,c2,Rh,c3,Nat.mul_one,Nat.zero_add,s1,hw1]
     exact ⟨n - 1,by omega,p+1,by omega,rfl,rfl⟩
   · have c1:((p:Int) < (K.length:Int))=False:=eq_false (by omega)
     have hx:((K.take p).foldl (fun B c=>B.set c true) F256)=BK K:=by rw [List.take_of_length_le (by omega)]; rfl
     rw [hx]
     simp only [go_sem,Cr,Aq,Al,Ar,Cl,KB_n,KB_x,Nat.reduceBEq,Nat.reduceAdd,Nat.reduceLT,Nat.reduceLeDiff,Nat.reduceEqDiff,reduceIte,Int.reduceEq,reduceCtorEq,g0,g2,g4,Dy,c1,la,hpl,st,hfl,frz]
     refine AL ov ?_ ?_
     · simp [BE,AV.refs,AV.refs.go,QT]
     · simp only [wkZ]
       have e1:wk (.agg (List.replicate 256 .id)) (.agg (bs (BK K)))=.agg (bs (BK K)):=by
        rw [wk,bs_wk]
       rw [e1]
       rfl
 · simp only [go_sem,Cr,Aq,Al,Ar,Cl,KB_n,KB_x,Nat.reduceBEq,Nat.reduceAdd,Nat.reduceLT,Nat.reduceLeDiff,Nat.reduceEqDiff,reduceIte,Int.reduceEq,reduceCtorEq]
   exact ⟨0,by omega,rfl,rfl⟩
def Jj (K l:List Nat):Bool:=l.any fun c=>decide (c∈K)
theorem UP {K:List Nat} {r:Int} (h:128≤r):PV K r = -1:=by unfold PV; rw [if_neg (by omega)]
theorem NP (K:List Nat) (c:Nat) (h:c < 128):(0≤PV K (c:Int))↔c∈K:=by
 unfold PV
 rw [if_pos (by omega),Int.toNat_natCast]
 have:=OO (c:=c) (l:=K) (n:=0)
 constructor
 · intro h1
   by_cases h2:c∈K
   · exact h2
   · exact absurd (this.2 h2) (by omega)
 · intro h1
   by_cases h2:idxB c 0 K < 0
   · exact absurd h1 (this.1 h2)
   · omega
theorem Rg {K l:List Nat} {i:Nat} (h:i < l.length) (hm:l[i]∈K):Jj K l=true:=by
 unfold Jj
 rw [List.any_eq_true]
 exact ⟨_,List.getElem_mem h,by simpa using hm⟩
theorem Mh {K l:List Nat} (h:∀ i (hi:i < l.length),l[i]∉K):Jj K l=false:=by
 unfold Jj
 rw [List.any_eq_false]
 intro x hx
 obtain ⟨i,hi,rfl⟩:=List.mem_iff_getElem.1 hx
 simpa using h i hi
def IAK (K l:List Nat) (s:St) (r:AV) (s':St):Prop:=s'=s∧∃ z:Int,r=.i .i64 z∧(decide (0≤z))=Jj K l
theorem V6 {K:List Nat} {s s2:St} {l:List Nat} {z:Int} (hov:Over s s2) (h:decide (0≤z)=Jj K l):KH s [CT.id] (IAK K l s) (some ([.i .i64 z],s2)):=by
 refine ⟨_,_,rfl,?_⟩
 show IAK K l s (.i .i64 z) (leave s s2 (.i .i64 z))
 rw [hov.leave rfl]
 exact ⟨rfl,z,rfl,h⟩
theorem PX {K:List Nat} (hK:AsK K) (l:List Nat) (hl:Txt l) (s:St) (hw:Wf s):∃ r s',(lim prog).call Ed [.s l,.s K] s=some (r,s')∧IAK K l s r s':=by
 refine fn_G (Post:=IAK K l s) KZ rfl rfl ?_
 have hlen:=hl.len
 have hk4:=hK.four
 have k1:(K=[])=False:=by
  simp only [eq_iff_iff,iff_false]; intro hh; rw [hh] at hk4; simp at hk4
 have k2:((K.length:Int)=1)=False:=eq_false (by omega)
 have ia_cin:BX.cin=[.id,.id]:=rfl
 have ia_res:BX.res=[(4,none)]:=rfl
 have ia_cout:BX.cout=[.id]:=rfl
 rw [Ya,ia_cin,ia_res,ia_cout]
 by_cases h8:(8:Int) < (l.length:Int)
 · have hmk:=mkK_ok hK s.enter hw.enter
   have hb0:(s.enter.new (.cells 184 Z256)).box? s.enter.nb=some (.cells 184 (bs F256)):=BW s.enter _
   have st:=bs_st hb0 (PW K) len0
   rw [MR] at st
   obtain ⟨s1,hs1⟩:∃ s1,s.enter.new (.cells 184 (bs (BK K)))=s1:=⟨_,rfl⟩
   have hb1:s1.box? s.enter.nb=some (.cells 184 (bs (BK K))):=by rw [← hs1]; exact BW s.enter _
   have ov1:Over s s1:=by rw [← hs1]; exact (Over.enter s).new _
   rw [hs1] at st
   have hcells:(AV.agg (bs (BK K))).cells.length=256:=by show (bs (BK K)).length=256; simpa using PW K
   simp only [go_sem,Cr,Aq,Al,Ar,Cl,KB_n,KB_x,Nat.reduceBEq,Nat.reduceAdd,Nat.reduceLT,Nat.reduceLeDiff,Nat.reduceEqDiff,reduceIte,Int.reduceEq,reduceCtorEq,Dy,k1,k2,LW,h8,hmk,st]
   refine BP (fun n e q=>∃ i:Nat,i+n=l.length∧q=s1∧e.get 0=.s l∧e.get 6=.p s.enter.nb 0∧e.get 8=.i .i64 i∧∀ (j:Nat) (hj:j < l.length),j < i→l[j]∉K) ?_ l.length _ _ ?_
   · rintro n e q ⟨i,hi,rfl,g0,g6,g8,hno⟩
     simp only [go_sem,Cr,Aq,Al,Ar,Cl,KB_n,KB_x,Nat.reduceBEq,Nat.reduceAdd,Nat.reduceLT,Nat.reduceLeDiff,Nat.reduceEqDiff,reduceIte,Int.reduceEq,reduceCtorEq,g0,g8,Dy]
     refine Ty (fun hlt=>?_) (fun hge=>?_)
     · have hlt:i < l.length:=by omega
       have hget:l[i]? = some l[i]:=List.getElem?_eq_getElem hlt
       have h256:=hl.lt l[i] (List.getElem_mem hlt)
       have hc:=QU hb1 h256 (bk_get K h256)
       simp only [go_sem,Cr,Aq,Al,Ar,Cl,KB_n,KB_x,Nat.reduceBEq,Nat.reduceAdd,Nat.reduceLT,Nat.reduceLeDiff,Nat.reduceEqDiff,reduceIte,Int.reduceEq,reduceCtorEq,g0,g6,g8,Pa,hget,Dy,hc]
       refine Ty (fun hm=>?_) (fun hm=>?_)
       · exact V6 ov1 (by rw [Rg hlt hm]; simp)
       · simp only [go_sem,Cr,Aq,Al,Ar,Cl,KB_n,KB_x,Nat.reduceBEq,Nat.reduceAdd,Nat.reduceLT,Nat.reduceLeDiff,Nat.reduceEqDiff,reduceIte,Int.reduceEq,reduceCtorEq,AR (show i+1 < 2^63 by omega),g0,g6,g8]
         refine ⟨n - 1,by omega,i+1,by omega,rfl,fun j hj hji=>?_⟩
         by_cases hje:j=i
         · subst hje; exact hm
         · exact hno j hj (by omega)
     · exact V6 ov1 (by rw [Mh fun j hj=>hno j hj (by omega)]; decide)
   · simp only [go_sem,Cr,Aq,Al,Ar,Cl,KB_n,KB_x,Nat.reduceBEq,Nat.reduceAdd,Nat.reduceLT,Nat.reduceLeDiff,Nat.reduceEqDiff,reduceIte,Int.reduceEq,reduceCtorEq]
     exact ⟨0,by omega,rfl,fun j hj h=>by omega⟩
 · have hsi:∀ p p',(s.enter.new (.siter l p)).setBox s.enter.nb (.siter l p')=s.enter.new (.siter l p'):=fun p p'=>MR _ _ _
   simp only [go_sem,Cr,Aq,Al,Ar,Cl,KB_n,KB_x,Nat.reduceBEq,Nat.reduceAdd,Nat.reduceLT,Nat.reduceLeDiff,Nat.reduceEqDiff,reduceIte,Int.reduceEq,reduceCtorEq,Dy,k1,k2,LW,h8]
   refine BP (fun n e q=>∃ i:Nat,i+n=l.length∧q=s.enter.new (.siter l i)∧e.get 1=.s K∧e.get 45=.p s.enter.nb 0∧∀ (j:Nat) (hj:j < l.length),j < i→l[j]∉K) ?_ l.length _ _ ?_
   · rintro n e q ⟨i,hi,rfl,g1,g45,hno⟩
     have ov1:∀ p,Over s (s.enter.new (.siter l p)):=fun p=>(Over.enter s).new _
     by_cases hlt:i < l.length
     · have hget:l[i]? = some l[i]:=List.getElem?_eq_getElem hlt
       by_cases h128:l[i] < 128
       · have h128':(l[i] < 128)=True:=by simp [h128]
         have hr:=Kf hK (l[i]:Int) (by omega) (by omega)
         simp only [go_sem,Cr,Aq,Al,Ar,Cl,KB_n,KB_x,Nat.reduceBEq,Nat.reduceAdd,Nat.reduceLT,Nat.reduceLeDiff,Nat.reduceEqDiff,reduceIte,Int.reduceEq,reduceCtorEq,g1,g45,hget,h128',Dy,hsi,hr]
         refine Ty (fun hm=>?_) (fun hm=>?_)
         · exact V6 (ov1 _) (by rw [Rg hlt ((NP K _ h128).1 hm)]; simp)
         · refine ⟨n - 1,by omega,i+1,by omega,rfl,fun j hj hji=>?_⟩
           by_cases hje:j=i
           · subst hje; exact fun hh=>hm ((NP K _ h128).2 hh)
           · exact hno j hj (by omega)
       · have h128':(l[i] < 128)=False:=by simp [h128]
         obtain ⟨r,w,e1,e2,e3,e4,e5,e6⟩:=V9 hl.lt hlt (by omega)
         have hr:=Kf hK (r:Int) (by omega) (by omega)
         rw [UP (by omega)] at hr
         have hm1:((0:Int) ≤ -1)=False:=by simp
         simp only [go_sem,Cr,Aq,Al,Ar,Cl,KB_n,KB_x,Nat.reduceBEq,Nat.reduceAdd,Nat.reduceLT,Nat.reduceLeDiff,Nat.reduceEqDiff,reduceIte,Int.reduceEq,reduceCtorEq,g1,g45,hget,h128',Dy,hsi,e1,hr,hm1]
         refine ⟨n - w,by omega,i+w,by omega,rfl,fun j hj hji=>?_⟩
         by_cases hje:j < i
         · exact hno j hj hje
         · have:=e6 j hj (by omega) hji
           intro hh
           have:=hK.lt _ hh
           omega
     · have hget:l[i]? = none:=List.getElem?_eq_none (by omega)
       simp only [go_sem,Cr,Aq,Al,Ar,Cl,KB_n,KB_x,Nat.reduceBEq,Nat.reduceAdd,Nat.reduceLT,Nat.reduceLeDiff,Nat.reduceEqDiff,reduceIte,Int.reduceEq,reduceCtorEq,g1,g45,hget]
       exact V6 (ov1 _) (by rw [Mh fun j hj=>hno j hj (by omega)]; decide)
   · simp only [go_sem,Cr,Aq,Al,Ar,Cl,KB_n,KB_x,Nat.reduceBEq,Nat.reduceAdd,Nat.reduceLT,Nat.reduceLeDiff,Nat.reduceEqDiff,reduceIte,Int.reduceEq,reduceCtorEq]
     exact ⟨0,by omega,rfl,fun j hj h=>by omega⟩
theorem Mi {K:List Nat} (hK:AsK K) (l:List Nat) (hl:Txt l) (s:St) (hw:Wf s):(lim prog).call Dr [.s l,.s K] s=some (.b (Jj K l),s):=by
 refine fn_W Ip rfl rfl ?_
 obtain ⟨r,s',h,rfl,z,rfl,hz⟩:=PX hK l hl s.enter hw.enter
 simp only [CM,go_sem,Cr,Aq,Al,Ar,Cl,KB_n,KB_x,Nat.reduceBEq,Nat.reduceAdd,Nat.reduceLT,Nat.reduceLeDiff,Nat.reduceEqDiff,reduceIte,Int.reduceEq,reduceCtorEq,h,hz]
 exact AL (Over.enter s) rfl rfl
end Go.Proofs.YtmnbfgfgjmmhfaaGreatDoor

namespace Go.Proofs.YtmnbfgfgjmmhfaaGreatDoor
open Go.Proofs.YtmnbfgfgjmmhfaaGreatDoor.Am
def segs:List Nat→List Nat→List (List Nat)
 | cur,[]=>[cur]
 | cur,c::l=>if c=47 then cur::segs [] l else segs (cur++[c]) l
def splitL (l:List Nat):List (List Nat):=segs [] l
theorem SX {s s1:St} {v:AV} (h:v.refs=true):leave s s1 v={ s1 with lo:=min s.lo s1.lo }:=by
 unfold Am.leave
 rw [h,Bool.not_true,Bool.and_false,if_neg (by simp)]

def stepOk (x:List Nat):Bool:=decide (x≠[])&&decide (x≠[46])
def cnt (l:List Nat) (j:Nat):Nat:=(((splitL l).take j).filter stepOk).length

/-! ### Clean -/



theorem Et {x y:List Nat} (h:x.length+y.length < 2^62):Am.binOp .add (.s x) (.s y)=some (.s (x++y)):=by rw [bs_add,if_pos h]

attribute [local irreducible] W WO WE WQ WD Tr.get Tr.set
theorem Kd {s q:St} (h:Over s q) {id:Nat} (hid:id < s.nb):q.box? id=s.box? id:=by
 have h1:=h.nb
 have e1:Nat.blt id q.nb=true:=by rw [Nat.blt_eq]; omega
 have e2:Nat.blt id s.nb=true:=by rw [Nat.blt_eq]; exact hid
 simp only [St.box?,e1,e2,cond_true,← h.boxes,List.getElem?_drop]
 congr 1
 omega
theorem YV {s q:St} (h:Over s q) {id T off:Nat} {cs:List AV} {v:AV} (hid:id < s.nb) (hb:s.box? id=some (.cells T cs)) (hc:cs[off]? = some v):ldA q false 1 (.p id off)=some v :=
 Er (by rw [Kd h hid]; exact hb) hc
section
variable {s0 s:St} {n:En} {R:List RA} {B:List (Nat×Box)}
theorem _root_.Go.Proofs.YtmnbfgfgjmmhfaaGreatDoor.Am.Hp.strw (H:Hp s0 s n R B) (i:Nat) {id T off m rm:Nat} {cs:List AV} {v:AV} (h:B[i]? = some (id,.row T cs false rm)) (hoff:off+m≤cs.length) (hv:v.cells.length=m∧ones v.cells=true) :
    ∃ s',stA s m (.p id off) v=some s'∧Hp s0 s' n R (B.set i (id,.row T (cs.take off++(v.cells++cs.drop (off+v.cells.length))) false rm))∧s'.nb=s.nb:=by
 have hb:(B.set i (id,Box.row T (cs.take off++(v.cells++cs.drop (off+v.cells.length))) false rm))[i]? = some (id,.row T (cs.take off++(v.cells++cs.drop (off+v.cells.length))) false rm):=by
  rw [List.getElem?_set,if_pos rfl,if_pos (by rw [List.getElem?_eq_some_iff] at h; exact h.1)]
 obtain ⟨h1,h2,_⟩:=(H.setBox h (.row T (cs.take off++(v.cells++cs.drop (off+v.cells.length))) false rm)).esc hb v
 refine ⟨_,?_,h1,h2⟩
 have hbx:=(H.box h).1
 simp only at hbx
 have:Am.overR cs off v.cells rm=some (cs.take off++(v.cells++cs.drop (off+v.cells.length))):=by
  unfold Am.overR
  rw [if_pos (by omega)]
 simp only [stA,hbx,hv,and_self,if_true,this]
end
structure PT where
 var:Bool
 text:List Nat
 quoted:Bool
def PT.cells (p:PT):List AV:=[.b p.var,.s p.text,.b p.quoted]
def PT.av (p:PT):AV:=.agg p.cells
structure IT where
 parts:List PT
 split:Bool
def ptx (l:List PT):AV:=.ws false 3 (l.map PT.av)
def IT.cells (x:IT):List AV:=[ptx x.parts,.b x.split]
def IT.av (x:IT):AV:=.agg x.cells
def itx (l:List IT):AV:=.ws false 2 (l.map IT.av)
inductive IN where
 | mk (k:Nat) (n:List Nat) (is:List IT) (ks:List IN)
def IN.kind:IN→Nat | .mk k _ _ _=>k
def IN.name:IN→List Nat | .mk _ n _ _=>n
def IN.items:IN→List IT | .mk _ _ is _=>is
def IN.kids:IN→List IN | .mk _ _ _ ks=>ks
mutual
def IN.av:IN→AV
 | .mk k n is ks=>.agg [.i .u8 (k:Nat),.s n,itx is,.ws false 4 (IN.avs ks)]
def IN.avs:List IN→List AV
 | []=>[]
 | n::l=>n.av::IN.avs l
end
theorem IN.avs_map:∀ l:List IN,IN.avs l=l.map IN.av
 | []=>by simp [IN.avs]
 | n::l=>by simp only [IN.avs,IN.avs_map l,List.map_cons]
def inx (l:List IN):AV:=.ws false 4 (l.map IN.av)
def IN.cells (n:IN):List AV:=[.i .u8 (n.kind:Nat),.s n.name,itx n.items,.ws false 4 (n.kids.map IN.av)]
theorem IN.av_eq (n:IN):n.av=.agg n.cells:=by
 cases n with
 | mk k t ns ks=>simp only [IN.av,IN.avs_map,IN.cells,IN.kind,IN.name,IN.items,IN.kids]
theorem IN.lt {n k:IN} (h:k∈n.kids):SizeOf.sizeOf k < SizeOf.sizeOf n:=by
 cases n with
 | mk a t ns ks =>
   have h:k∈ks:=h
   have:=List.sizeOf_lt_of_mem h
   simp only [IN.mk.sizeOf_spec]
   omega
theorem IN.ind {P:IN→Prop} (h:∀ n,(∀ k∈n.kids,P k)→P n) (n:IN):P n:=by
 have:∀ (m:Nat) (n:IN),SizeOf.sizeOf n < m→P n:=by
  intro m
  induction m with
  | zero=>intro n hn; omega
  | succ m ih =>
    intro n hn
    exact h n fun k hk=>ih k (by have:=IN.lt hk; omega)
 exact this _ n (Nat.lt_succ_self _)
structure PT.Ok (p:PT):Prop where
 text:Txt p.text
 len:p.text.length < 2^60
structure IT.Ok (x:IT):Prop where
 parts:∀ p∈x.parts,p.Ok
 len:x.parts.length < 2^34
inductive IN.Ok:IN→Prop
 | mk {k:Nat} {n:List Nat} {is:List IT} {ks:List IN} (h1:k < 256) (h2:Txt n) (h2':n.length < 2^60) (h3:∀ x∈is,x.Ok) (h4:is.length < 2^34) (h5:∀ x∈ks,x.Ok) (h6:ks.length < 2^34):IN.Ok (.mk k n is ks)
theorem IN.Ok.kind {n:IN} (h:n.Ok):n.kind < 256:=by cases h; assumption
theorem IN.Ok.name {n:IN} (h:n.Ok):Txt n.name:=by cases h; assumption
theorem IN.Ok.nlen {n:IN} (h:n.Ok):n.name.length < 2^60:=by cases h; assumption
theorem IN.Ok.items {n:IN} (h:n.Ok):(∀ x∈n.items,x.Ok)∧n.items.length < 2^34:=by cases h; exact ⟨by assumption,by assumption⟩
theorem IN.Ok.kids {n:IN} (h:n.Ok):(∀ x∈n.kids,x.Ok)∧n.kids.length < 2^34:=by cases h; exact ⟨by assumption,by assumption⟩
theorem Is {L:List PT} {i:Nat} {p:PT} (h:L[i]? = some p):(L.map PT.av)[i]? = some (.agg p.cells):=by rw [List.getElem?_map,h]; rfl
theorem It {L:List IT} {i:Nat} {p:IT} (h:L[i]? = some p):(L.map IT.av)[i]? = some (.agg p.cells):=by rw [List.getElem?_map,h]; rfl
theorem Iu {L:List IN} {i:Nat} {p:IN} (h:L[i]? = some p):(L.map IN.av)[i]? = some (.agg p.cells):=by rw [List.getElem?_map,h,Option.map_some,IN.av_eq]
theorem pc3 (p:PT):p.cells.length=3:=rfl
theorem ic2 (p:IT):p.cells.length=2:=rfl
theorem nc4 (p:IN):p.cells.length=4:=rfl
theorem po3 (p:PT):ones p.cells=true:=rfl
theorem io2 (p:IT):ones p.cells=true:=rfl
theorem no4 (p:IN):ones p.cells=true:=rfl
theorem Dw (p:PT) (s:St):pubL s p.cells=some (p.cells,s):=rfl
theorem OL (p:IT) (s:St):pubL s p.cells=some (p.cells,s):=rfl
theorem DS (p:IN) (s:St):pubL s p.cells=some (p.cells,s):=rfl
theorem pld (p:PT) (s:St):ldA s true 3 (.ep p.cells 0 .shut)=some (.agg p.cells):=rfl
theorem ild (p:IT) (s:St):ldA s true 2 (.ep p.cells 0 .shut)=some (.agg p.cells):=rfl
theorem nld (p:IN) (s:St):ldA s true 4 (.ep p.cells 0 .shut)=some (.agg p.cells):=rfl
def orZ (c:Nat):Int:=IntKind.u8.wrap (BitVec.ofInt 8 (c:Int) ||| BitVec.ofInt 8 32).toNat
def EA (c:Nat):Bool:=decide (c=95)||(decide (97≤orZ c)&&decide (orZ c≤122))
def Ke (c:Nat):Bool:=decide (48≤c)&&decide (c≤57)
theorem UJ (c:Nat):Am.binOp .or (.i .u8 (c:Int)) (.i .u8 32)=some (.i .u8 (orZ c)):=rfl
theorem PM (c:Nat) (s:St):(lim prog).call Fc [.i .u8 (c:Nat)] s=some (.b (EA c),s):=by
 refine fn_W OF rfl rfl ?_
 have hb:∀ b,KR s [.id] (.b b) (some ([.b b],s.enter)):=fun b=>AL (Over.enter s) rfl rfl
 unfold EA
 by_cases h1:c=95
 · have e1:((c:Int)=95)=True:=eq_true (by omega)
   simp only [Dc,go_sem,AD,AA,AC,AB,KB_n,KB_x,Nat.reduceBEq,Nat.reduceAdd,Nat.reduceLT,Nat.reduceLeDiff,Nat.reduceEqDiff,reduceIte,Int.reduceEq,reduceCtorEq,e1,decide_eq_true h1,Bool.true_or]
   exact hb _
 · have e1:((c:Int)=95)=False:=eq_false (by omega)
   rw [decide_eq_false h1]
   by_cases h2:97≤orZ c
   · have e2:((97:Int)≤orZ c)=True:=eq_true h2
     simp only [Dc,go_sem,AD,AA,AC,AB,KB_n,KB_x,Nat.reduceBEq,Nat.reduceAdd,Nat.reduceLT,Nat.reduceLeDiff,Nat.reduceEqDiff,reduceIte,Int.reduceEq,reduceCtorEq,e1,UJ,e2,Bool.false_or,decide_true,Bool.true_and]
     exact hb _
   · have e2:((97:Int)≤orZ c)=False:=eq_false h2
     simp only [Dc,go_sem,AD,AA,AC,AB,KB_n,KB_x,Nat.reduceBEq,Nat.reduceAdd,Nat.reduceLT,Nat.reduceLeDiff,Nat.reduceEqDiff,reduceIte,Int.reduceEq,reduceCtorEq,e1,UJ,e2,Bool.false_or,decide_false,Bool.false_and]
     exact hb _
theorem V4 (c:Nat) (s:St):(lim prog).call Ik [.i .u8 (c:Nat)] s=some (.b (Ke c),s):=by
 refine fn_W PG rfl rfl ?_
 have hb:∀ b,KR s [.id] (.b b) (some ([.b b],s.enter)):=fun b=>AL (Over.enter s) rfl rfl
 unfold Ke
 by_cases h1:48≤c
 · have e1:((48:Int)≤(c:Int))=True:=eq_true (by omega)
   have e2:decide ((c:Int)≤57)=decide (c≤57):=by simp only [decide_eq_decide]; omega
   simp only [EQ,go_sem,AD,AA,AC,AB,KB_n,KB_x,Nat.reduceBEq,Nat.reduceAdd,Nat.reduceLT,Nat.reduceLeDiff,Nat.reduceEqDiff,reduceIte,Int.reduceEq,reduceCtorEq,e1,e2,decide_eq_true h1,Bool.true_and]
   exact hb _
 · have e1:((48:Int)≤(c:Int))=False:=eq_false (by omega)
   simp only [EQ,go_sem,AD,AA,AC,AB,KB_n,KB_x,Nat.reduceBEq,Nat.reduceAdd,Nat.reduceLT,Nat.reduceLeDiff,Nat.reduceEqDiff,reduceIte,Int.reduceEq,reduceCtorEq,e1,decide_eq_false h1,Bool.false_and]
   exact hb _
theorem FM (l:List Nat) (c:Nat) (hc:c < 256) (s:St):(lim prog).call CO [.s l,.s [c]] s=some (.b (decide (c∈l)),s):=by
 refine fn_W KY rfl rfl ?_
 have h:=V7 l c hc s.enter
 have e:decide (0≤idxB c 0 l)=decide (c∈l):=by
  have:=OO (c:=c) (l:=l) (n:=0)
  simp only [decide_eq_decide]
  constructor
  · intro h1
    by_cases h2:c∈l
    · exact h2
    · exact absurd (this.2 h2) (by omega)
  · intro h1
    by_cases h2:idxB c 0 l < 0
    · exact absurd h1 (this.1 h2)
    · omega
 simp only [C9,go_sem,AD,AA,AC,AB,KB_n,KB_x,Nat.reduceBEq,Nat.reduceAdd,Nat.reduceLT,Nat.reduceLeDiff,Nat.reduceEqDiff,reduceIte,Int.reduceEq,reduceCtorEq,h,e]
 exact AL (Over.enter s) rfl rfl
def runN:List Nat→Nat→Nat
 | _,0=>0
 | [],_=>0
 | c::t,m+1=>if EA c||Ke c then 1+runN t m else 0
def leadN:List Nat→Nat
 | []=>0
 | c::t=>if EA c then 1+runN t 63 else 0
theorem YW (l:List Nat) (s:St):(lim prog).call Je [.s l] s=some (.i .i64 (leadN l:Nat),s):=by
 refine fn_W QL rfl rfl ?_
 have hz0:wkZ Db.cin [.s l]=[.s l]:=by simp [Db,wkZ,wk]
 rw [hz0]
 cases l with
 | nil =>
   have e1:(([]:List Nat)=[])=True:=eq_true rfl
   simp only [Db,go_sem,AD,AA,AC,AB,KB_n,KB_x,Nat.reduceBEq,Nat.reduceAdd,Nat.reduceLT,Nat.reduceLeDiff,Nat.reduceEqDiff,reduceIte,Int.reduceEq,reduceCtorEq,e1]
   exact AL (Over.enter s) rfl rfl
 | cons c t =>
   have e1:((c::t)=[])=False:=by simp
   have hL:=PM c s.enter
   have n0:CX (.i .i64 0)=some 0:=rfl
   have g0':(c::t)[0]? = some c:=rfl
   cases hlc:EA c with
   | false =>
     rw [hlc] at hL
     simp only [Db,go_sem,AD,AA,AC,AB,KB_n,KB_x,Nat.reduceBEq,Nat.reduceAdd,Nat.reduceLT,Nat.reduceLeDiff,Nat.reduceEqDiff,reduceIte,Int.reduceEq,reduceCtorEq,e1,n0,g0',hL]
     exact AL (Over.enter s) rfl (by simp [BE,wkZ,wk,leadN,hlc])
   | true =>
     rw [hlc] at hL
     have hlead:leadN (c::t)=1+runN t 63:=by simp [leadN,hlc]
     simp only [Db,go_sem,AD,AA,AC,AB,KB_n,KB_x,Nat.reduceBEq,Nat.reduceAdd,Nat.reduceLT,Nat.reduceLeDiff,Nat.reduceEqDiff,reduceIte,Int.reduceEq,reduceCtorEq,e1,n0,g0',hL]
     refine BP (fun x e q=>∃ n:Nat,n+x=64∧1≤n∧n+runN ((c::t).drop n) (64 - n)=leadN (c::t)∧q=s.enter∧e.get 0=.s (c::t)∧e.get 3=.i .i64 (n:Nat)) ?_ 63 _ _ ?_
     · rintro x e q ⟨n,hn,h1n,hrun,rfl,g0,g3⟩
       have hfin:leadN (c::t)=n→KR s [.id] (.i .i64 (leadN (c::t):Nat)) (some ([.i .i64 (n:Nat)],s.enter)):=fun h=>AL (Over.enter s) rfl (by rw [h]; rfl)
       by_cases h:n < (c::t).length
       · have f1:((n:Int) < (((c::t).length:Nat):Int))=True:=eq_true (by omega)
         have hdr:(c::t).drop n=(c::t)[n]::(c::t).drop (n+1):=List.drop_eq_getElem_cons h
         by_cases h6:n < 64
         · have f2:((n:Int) < 64)=True:=eq_true (by omega)
           obtain ⟨m,hm⟩:∃ m,64 - n=m+1:=⟨63 - n,by omega⟩
           have hget:(c::t)[n]? = some (c::t)[n]:=List.getElem?_eq_getElem h
           obtain ⟨d,hd⟩:∃ d,(c::t)[n]=d:=⟨_,rfl⟩
           rw [hd] at hget hdr
           have hLd:=PM d s.enter
           have hDd:=V4 d s.enter
           have hw1:=AR (show n+1 < 2^63 by omega)
           rw [hdr,hm,runN] at hrun
           cases hld:EA d with
           | true =>
             rw [hld] at hLd hrun
             simp only [go_sem,AD,AA,AC,AB,KB_n,KB_x,Nat.reduceBEq,Nat.reduceAdd,Nat.reduceLT,Nat.reduceLeDiff,Nat.reduceEqDiff,reduceIte,Int.reduceEq,reduceCtorEq,g0,g3,f1,f2,AG,hget,hLd,hw1]
             refine ⟨x - 1,by omega,n+1,by omega,by omega,?_,rfl⟩
             rw [show 64 - (n+1)=m by omega]
             simp only [Bool.true_or,if_true] at hrun
             omega
           | false =>
             rw [hld] at hLd hrun
             cases hdd:Ke d with
             | true =>
               rw [hdd] at hDd hrun
               simp only [go_sem,AD,AA,AC,AB,KB_n,KB_x,Nat.reduceBEq,Nat.reduceAdd,Nat.reduceLT,Nat.reduceLeDiff,Nat.reduceEqDiff,reduceIte,Int.reduceEq,reduceCtorEq,g0,g3,f1,f2,AG,hget,hLd,hDd,hw1]
               refine ⟨x - 1,by omega,n+1,by omega,by omega,?_,rfl⟩
               rw [show 64 - (n+1)=m by omega]
               simp only [Bool.or_true,if_true] at hrun
               omega
             | false =>
               rw [hdd] at hDd hrun
               simp only [go_sem,AD,AA,AC,AB,KB_n,KB_x,Nat.reduceBEq,Nat.reduceAdd,Nat.reduceLT,Nat.reduceLeDiff,Nat.reduceEqDiff,reduceIte,Int.reduceEq,reduceCtorEq,g0,g3,f1,f2,AG,hget,hLd,hDd]
               refine hfin ?_
               simp only [Bool.or_self,Bool.false_eq_true,if_false] at hrun
               omega
         · have f2:((n:Int) < 64)=False:=eq_false (by omega)
           simp only [go_sem,AD,AA,AC,AB,KB_n,KB_x,Nat.reduceBEq,Nat.reduceAdd,Nat.reduceLT,Nat.reduceLeDiff,Nat.reduceEqDiff,reduceIte,Int.reduceEq,reduceCtorEq,g0,g3,f1,f2]
           refine hfin ?_
           rw [show 64 - n=0 by omega,runN] at hrun
           omega
       · have f1:((n:Int) < (((c::t).length:Nat):Int))=False:=eq_false (by omega)
         simp only [go_sem,AD,AA,AC,AB,KB_n,KB_x,Nat.reduceBEq,Nat.reduceAdd,Nat.reduceLT,Nat.reduceLeDiff,Nat.reduceEqDiff,reduceIte,Int.reduceEq,reduceCtorEq,g0,g3,f1]
         refine hfin ?_
         rw [List.drop_of_length_le (by omega)] at hrun
         have:∀ m,runN [] m=0:=fun m=>by cases m<;>rfl
         rw [this] at hrun
         omega
     · simp only [go_sem,AD,AA,AC,AB,KB_n,KB_x,Nat.reduceBEq,Nat.reduceAdd,Nat.reduceLT,Nat.reduceLeDiff,Nat.reduceEqDiff,reduceIte,Int.reduceEq,reduceCtorEq]
       refine ⟨1,by omega,by omega,?_,rfl⟩
       rw [hlead]; rfl
abbrev K11:List Nat:=[49,50,51,52,53,54,55,56,57,35,63]
def D5 (l:List Nat):Bool:=(match l with | [c]=>decide (c∈K11) | _=>false)||(decide (l≠[])&&decide (leadN l=l.length))
theorem OM (l:List Nat) (hl:Txt l) (s:St):(lim prog).call GK [.s l] s=some (.b (D5 l),s):=by
 refine fn_W PD rfl rfl ?_
 have hlen:=hl.len
 have hz0:wkZ Cm.cin [.s l]=[.s l]:=by simp [Cm,wkZ,wk]
 rw [hz0]
 have hLd:=YW l s.enter
 have hb:∀ b,KR s [.id] (.b b) (some ([.b b],s.enter)):=fun b=>AL (Over.enter s) rfl rfl
 have e2:decide ((leadN l:Int)=(l.length:Int))=decide (leadN l=l.length):=by simp only [decide_eq_decide]; omega
 by_cases h1:l.length=1
 · obtain ⟨c,rfl⟩:=List.length_eq_one_iff.1 h1
   have e1:(((([c]:List Nat).length:Nat):Int)=1)=True:=eq_true (by simp)
   have hC:=FM K11 c (hl.lt c (by simp)) s.enter
   have e3:(([c]:List Nat)≠[])=True:=by simp
   unfold D5
   cases hk:decide (c∈K11) with
   | true =>
     rw [hk] at hC
     simp only [Cm,go_sem,AD,AA,AC,AB,KB_n,KB_x,Nat.reduceBEq,Nat.reduceAdd,Nat.reduceLT,Nat.reduceLeDiff,Nat.reduceEqDiff,reduceIte,Int.reduceEq,reduceCtorEq,e1,hC,hk,Bool.true_or]
     exact hb _
   | false =>
     rw [hk] at hC
     simp only [Cm,go_sem,AD,AA,AC,AB,KB_n,KB_x,Nat.reduceBEq,Nat.reduceAdd,Nat.reduceLT,Nat.reduceLeDiff,Nat.reduceEqDiff,reduceIte,Int.reduceEq,reduceCtorEq,e1,hC,hk,Bool.false_or,e3,hLd,e2,decide_true,Bool.true_and]
     exact hb _
 · have e1:((l.length:Int)=1)=False:=eq_false (by omega)
   have hp:D5 l=(decide (l≠[])&&decide (leadN l=l.length)):=by
    unfold D5
    split
    · simp at h1
    · simp
   rw [hp]
   by_cases h0:l=[]
   · subst h0
     have e3:(([]:List Nat)≠[])=False:=by simp
     simp only [Cm,go_sem,AD,AA,AC,AB,KB_n,KB_x,Nat.reduceBEq,Nat.reduceAdd,Nat.reduceLT,Nat.reduceLeDiff,Nat.reduceEqDiff,reduceIte,Int.reduceEq,reduceCtorEq,e1,e3,decide_false,Bool.false_and]
     exact hb _
   · have e3:(l≠[])=True:=by simp [h0]
     simp only [Cm,go_sem,AD,AA,AC,AB,KB_n,KB_x,Nat.reduceBEq,Nat.reduceAdd,Nat.reduceLT,Nat.reduceLeDiff,Nat.reduceEqDiff,reduceIte,Int.reduceEq,reduceCtorEq,e1,e3,hLd,e2,decide_true,Bool.true_and]
     exact hb _
end Go.Proofs.YtmnbfgfgjmmhfaaGreatDoor

namespace Go.Proofs.YtmnbfgfgjmmhfaaGreatDoor
open Go.Proofs.YtmnbfgfgjmmhfaaGreatDoor.Am
attribute [local irreducible] W WO WE WQ WD Tr.get Tr.set
abbrev zI:List AV:=[.i .u8 0,.s [],.nsl,.nsl]
theorem OG (n:IN):AV.refs.go n.cells=false:=by
 have:∀ n:IN,n.av.refs=false:=by
  refine IN.ind fun n ih=>?_
  have hk:∀ l:List IN,(∀ k∈l,k.av.refs=false)→AV.refs.go (l.map IN.av)=false:=by
   intro l
   induction l with
   | nil=>intro _; rfl
   | cons k l ihl =>
     intro h
     rw [List.map_cons,AV.refs.go,h k (by simp),ihl fun z hz=>h z (by simp [hz])]; rfl
  have hp:∀ l:List PT,AV.refs.go (l.map PT.av)=false:=by
   intro l
   induction l with
   | nil=>rfl
   | cons k l ihl=>rw [List.map_cons,AV.refs.go,ihl]; rfl
  have hi:∀ l:List IT,AV.refs.go (l.map IT.av)=false:=by
   intro l
   induction l with
   | nil=>rfl
   | cons k l ihl =>
     rw [List.map_cons,AV.refs.go,ihl]
     simp [IT.av,IT.cells,ptx,AV.refs,AV.refs.go,hp]
  rw [IN.av_eq]
  simp [AV.refs,IN.cells,AV.refs.go,itx,hi,hk n.kids ih]
 have h:=this n
 rw [IN.av_eq] at h
 simpa [AV.refs] using h
abbrev aA:C:=subC Cp.body [1,1,1,0,0,1,1,0,0,1,1,0,0]
abbrev aC:C:=subC Cp.body [1,1,1,0,0,1,1,0,0,1,1,0,1]
def alV (L:List (Nat×IN)):List (List AV):=L.map fun x=>[.i .i64 (x.1:Nat),.agg x.2.cells]
theorem YP {O O1 Kp:Nat→Prop} {s0 qr:St} {hc h k1 idy ky c:Nat} {Lt L1:List (Nat×IN)} {I:(Nat→St→Prop)→Nat→St→Prop} {R:St→Prop} {e:Tr}
    (B:BodyG prog O s0 hc h (.yld ky) (alV Lt) I R) (hk1:h≤k1) (hO1:∀ j,O1 j→h≤j∧j < k1∧¬ Kp j) (hKp:∀ j,Kp j→j < k1∧(O j∨h≤j)) (hidy:Kp idy) (hyb:qr.box? idy=some (.cells 118 [.yld ky]))
    (h0:s0.nb≤k1) (g3:e.get 3=.p idy 0) (hL:∀ j x,L1[j]? = some x→Lt[c+j]? = some x) :
    BodyG prog O1 s0 hc (k1+1) (.yld k1) (alV L1) (fun C j q=>I C (c+j) q∧q.box? k1=some (.loop 0 none e [24,25] aA aC)∧∀ i,Kp i→q.box? i=qr.box? i) (fun q=>R q∧∃ tm ps a b,q.box? k1=some (.loop 2 (some .ret) tm ps a b)) where
 stab:=fun C j q q' hC ⟨h1,h2,h3⟩ f=>⟨B.stab _ _ _ _ hC h1 (f.weaken (by omega) fun j hj ho=>absurd (hO1 j ho).1 (by omega)),by rw [f.box k1 (by omega) fun ho=>absurd (hO1 _ ho).2.1 (by omega)]; exact h2,fun i hi=>by rw [f.box i (by have:=(hKp i hi).1; omega) fun ho=>(hO1 i ho).2.2 hi]; exact h3 i hi⟩
 enter:=fun C j q hC ⟨h1,h2,h3⟩ hq=>⟨B.enter _ _ _ hC h1 (by omega),h2,h3⟩
 leave:=fun C j s q v hC ⟨h1,h2,h3⟩ hs hn ht hw hv=>⟨B.leave _ _ _ _ _ hC h1 (by omega) hn ht hw hv,by rw [Dg hw hn (by omega)]; exact h2,fun i hi=>by rw [Dg hw hn (by have:=(hKp i hi).1; omega)]; exact h3 i hi⟩
 stabR:=fun q q' ⟨h1,tm,ps,a,b,h2⟩ f=>⟨B.stabR _ _ h1 (f.weaken (by omega) fun j hj ho=>absurd (hO1 j ho).1 (by omega)),tm,ps,a,b,by rw [f.box k1 (by omega) fun ho=>absurd (hO1 _ ho).2.1 (by omega)]; exact h2⟩
 leaveR:=fun s q v ⟨h1,tm,ps,a,b,h2⟩ hs hn ht hw hv=>⟨B.leaveR _ _ _ h1 (by omega) hn ht hw hv,tm,ps,a,b,by rw [Dg hw hn (by omega)]; exact h2⟩
 step:=by
  intro C j hj q hC ⟨hI,hk,hkp⟩ hov hw hh
  have hj':j < L1.length:=by simpa [alV] using hj
  obtain ⟨x,hx⟩:∃ x,L1[j]? = some x:=⟨_,List.getElem?_eq_getElem hj'⟩
  have hLj:(alV L1)[j]=[.i .i64 (x.1:Nat),.agg x.2.cells]:=by
   rw [List.getElem?_eq_getElem hj'] at hx
   simp only [alV,List.getElem_map]
   rw [Option.some.inj hx]
  have hLt:=hL j x hx
  have hjt:c+j < (alV Lt).length:=by
   rw [List.getElem?_eq_some_iff] at hLt
   simpa [alV] using hLt.1
  have hLtj:(alV Lt)[c+j]=[.i .i64 (x.1:Nat),.agg x.2.cells]:=by
   rw [List.getElem?_eq_some_iff] at hLt
   simp only [alV,List.getElem_map]
   rw [hLt.2]
  rw [hLj]
  obtain ⟨q0,st0,w0,nb0,nt0,bx0n,bx0,ov0,fr0⟩:=RI (q:=q) hw (T:=25) (m:=4) (z:=zI) (v:=.agg x.2.cells) rfl ⟨nc4 _,no4 _⟩ (OG x.2)
  obtain ⟨q1,hq1⟩:∃ q1,q0.setBox k1 (.loop 1 none e [24,25] aA aC)=q1:=⟨_,rfl⟩
  have w1:Wf q1:=by rw [← hq1]; exact w0.setBox _ _
  have nb1:q1.nb=q.nb+1∧q1.nt=q.nt:=by rw [← hq1]; exact ⟨nb0,nt0⟩
  have bx1:∀ i,q1.box? i=if i=k1 then some (.loop 1 none e [24,25] aA aC) else q0.box? i:=fun i=>by rw [← hq1]; exact setBox_box? w0.b (by omega) i
  have fr1:Fq O h q q1:=by
   have f3:Fq O h q0 q1:=by rw [← hq1]; exact Fq.setBox w0 (by omega) (.inl hk1) (by omega) _
   exact (fr0 O h (by omega)).trans f3
  have ov0:=ov0 s0 hov
  have ov1:Over s0 q1:=by rw [← hq1]; exact Over.setBox ov0 h0 (by omega) _
  have b1k:=bx1 k1
  rw [if_pos rfl] at b1k
  have hkp1:∀ i,Kp i→q1.box? i=qr.box? i:=fun i hi=>by
   have:=(hKp i hi).1
   rw [bx1,if_neg (by omega),bx0 i (by omega)]
   exact hkp i hi
  have ldy:=Er (s:=q1) (v:=.yld ky) (off:=0) (by rw [hkp1 idy hidy]; exact hyb) rfl
  have b1n:q1.box? q.nb=some (.cells 25 (AV.agg x.2.cells).cells):=by rw [bx1,if_neg (by omega)]; exact bx0n
  have ldx:ldA q1 true 4 (.p q.nb 0)=some (.agg x.2.cells):=by
   simp only [ldA,St.cells?,b1n]; rfl
  have hO1k:¬ O1 k1:=fun ho=>absurd (hO1 _ ho).2.1 (by omega)
  refine JC ?_
  refine N5 (t:=(e.set 10 24 (.i .i64 (x.1:Nat))).set 10 25 (.agg x.2.cells)) hk rfl ?_
  simp only [aA,Cp,subC,go_sem,AD,AA,AC,AB,KB_n,KB_x,Nat.reduceBEq,Nat.reduceAdd,Nat.reduceLT,Nat.reduceLeDiff,Nat.reduceEqDiff,reduceIte,Int.reduceEq,reduceCtorEq,st0]
  refine ⟨_,_,_,_,by rw [bx0 k1 (by omega)]; exact hk,?_⟩
  rw [hq1]
  obtain ⟨bb,q2,hstep,ht2,hf2,hov2,hw2,hnb2,hnt2,hkeep2⟩:=B.step C (c+j) hjt q1 hC (B.stab _ _ _ _ hC hI fr1) ov1 w1 (by omega)
  rw [hLtj] at hstep
  have b2k:q2.box? k1=q1.box? k1:=hkeep2 k1 (.inr hk1) (by omega)
  rw [b1k] at b2k
  have hkp2:∀ i,Kp i→q2.box? i=qr.box? i:=fun i hi=>by
   rw [hkeep2 i (hKp i hi).2 (by have:=(hKp i hi).1; omega)]
   exact hkp1 i hi
  have bx3:∀ B i,(q2.setBox k1 B).box? i=if i=k1 then some B else q2.box? i:=fun B i=>setBox_box? hw2.b (by omega) i
  have frs2:∀ B,Fq O h q2 (q2.setBox k1 B):=fun B=>Fq.setBox hw2 (by omega) (.inl hk1) (by omega) _
  have keep2:∀ i,(O1 i∨k1+1≤i)→i < q.nb→q2.box? i=q.box? i:=fun i hi hlt=>by
   rw [hkeep2 i (.inr (by rcases hi with hi | hi; exact (hO1 i hi).1; omega)) (by omega),bx1,if_neg,bx0 i hlt]
   rintro rfl
   rcases hi with hi | hi
   · exact hO1k hi
   · omega
  cases bb with
  | true =>
    simp only [aC,Cp,subC,go_sem,AD,AA,AC,AB,KB_n,KB_x,Nat.reduceBEq,Nat.reduceAdd,Nat.reduceLT,Nat.reduceLeDiff,Nat.reduceEqDiff,reduceIte,Int.reduceEq,reduceCtorEq,g3,ldy,ldx,DS,hstep]
    refine Ic b2k (by omega) hw2 hov2 h0 (by omega) (by omega) hO1k keep2 (fun _=>⟨?_,by rw [bx3,if_pos rfl]; rfl,fun i hi=>by rw [bx3,if_neg (by have:=(hKp i hi).1; omega)]; exact hkp2 i hi⟩) (fun hh=>by simp at hh) (fun i hh=>by simp at hh)
    exact B.stab _ _ _ _ hC (ht2 rfl) (frs2 _)
  | false =>
    simp only [aC,Cp,subC,go_sem,AD,AA,AC,AB,KB_n,KB_x,Nat.reduceBEq,Nat.reduceAdd,Nat.reduceLT,Nat.reduceLeDiff,Nat.reduceEqDiff,reduceIte,Int.reduceEq,reduceCtorEq,g3,ldy,ldx,DS,hstep]
    exact Ic b2k (by omega) hw2 hov2 h0 (by omega) (by omega) hO1k keep2 (fun hh=>by simp at hh) (fun _=>⟨B.stabR _ _ (hf2 rfl) (frs2 _),_,_,_,_,by rw [bx3,if_pos rfl]⟩) (fun i hh=>by simp at hh)

mutual
def allL:IN→Nat→List (Nat×IN)
 | .mk k n is ks,d=>(d,.mk k n is ks)::UC ks (d+1)
def UC:List IN→Nat→List (Nat×IN)
 | [],_=>[]
 | k::ks,d=>allL k d++UC ks d
end
theorem RX:∀ (l:List IN) (d:Nat),UC l d=(l.map fun k=>allL k d).flatten
 | [],_=>by simp [UC]
 | k::l,d=>by simp only [UC,RX l d,List.map_cons,List.flatten_cons]
theorem D9 (n:IN) (d:Nat):allL n d=(d,n)::(n.kids.map fun k=>allL k (d+1)).flatten:=by
 cases n with
 | mk k nm is ks=>simp only [allL,RX,IN.kids]
mutual
def nodesI:IN→Nat
 | .mk _ _ _ ks=>1+Mc ks
def Mc:List IN→Nat
 | []=>0
 | k::ks=>nodesI k+Mc ks
end
theorem Md:∀ l:List IN,Mc l=(l.map nodesI).sum
 | []=>by simp [Mc]
 | k::l=>by simp only [Mc,Md l,List.map_cons,List.sum_cons]
theorem Iq (n:IN):nodesI n=1+(n.kids.map nodesI).sum:=by
 cases n with
 | mk a t ns ks=>simp only [nodesI,Md,IN.kids]
theorem JJ:∀ {l:List Nat} {x:Nat},x∈l→x≤l.sum
 | a::l,x,h=>by
   rw [List.sum_cons]
   rcases List.mem_cons.1 h with rfl | h
   · omega
   · have:=JJ h; omega
theorem JK {n k:IN} (h:k∈n.kids):nodesI k+1≤nodesI n:=by
 rw [Iq n]
 have:=JJ (List.mem_map.2 ⟨k,h,rfl⟩:nodesI k∈n.kids.map nodesI)
 omega
theorem Vz (n:IN) (d:Nat) (q:St) :
    (lim prog).call GJ [.agg n.cells,.i .i64 (d:Nat)] q=some (.fn DL [.p (q.nb+1) 0,.p q.nb 0],{ (q.new (.cells 25 n.cells)).new (.cells 3 [.i .i64 (d:Nat)]) with lo:=min q.lo q.nb }):=by
 obtain ⟨r,s',h,rfl,rfl⟩:=fn_G (f:=GJ) (args:=[.agg n.cells,.i .i64 (d:Nat)]) (s:=q) (Post:=fun r s'=>r=.fn DL [.p (q.nb+1) 0,.p q.nb 0]∧s'={ (q.new (.cells 25 n.cells)).new (.cells 3 [.i .i64 (d:Nat)]) with lo:=min q.lo q.nb }) Vy rfl rfl (by
  have hz0:wkZ HR.cin [.agg n.cells,.i .i64 (d:Nat)]=[.agg n.cells,.i .i64 (d:Nat)]:=by simp [HR,wkZ,wk,IN.cells,itx]
  rw [hz0]
  have h1:q.enter.nb=q.nb:=rfl
  have c1:(AV.i IntKind.i64 (d:Nat)).cells=[.i .i64 (d:Nat)]:=rfl
  simp only [HR,go_sem,AD,AA,AC,AB,KB_n,KB_x,Nat.reduceBEq,Nat.reduceAdd,Nat.reduceLT,Nat.reduceLeDiff,Nat.reduceEqDiff,reduceIte,Int.reduceEq,reduceCtorEq,nc4,h1,c1,List.length_cons,List.length_nil]
  exact ⟨_,_,rfl,rfl,SX rfl⟩)
 exact h
theorem RY {n:IN} {d:Nat} {q:St} (hw:Wf q) :
    ∃ q',(lim prog).call GJ [.agg n.cells,.i .i64 (d:Nat)] q=some (.fn DL [.p (q.nb+1) 0,.p q.nb 0],q')∧Wf q'∧q'.nb=q.nb+2∧q'.nt=q.nt∧q'.box? q.nb=some (.cells 25 n.cells)∧q'.box? (q.nb+1)=some (.cells 3 [.i .i64 (d:Nat)])∧(∀ i,i < q.nb→q'.box? i=q.box? i)∧(∀ s0:St,Over s0 q→Over s0 q')∧∀ (O:Nat→Prop) (h:Nat),h≤q.nb→Fq O h q q':=by
 have w1:=hw.new (.cells 25 n.cells)
 refine ⟨_,Vz n d q,(w1.new _).lo _,rfl,rfl,?_,?_,fun i hi=>?_,fun s0 h=>?_,fun O h hq=>?_⟩
 · have h1:((q.new (.cells 25 n.cells)).new (.cells 3 [.i .i64 (d:Nat)])).box? q.nb=(q.new (.cells 25 n.cells)).box? q.nb:=Co (by simp [St.new])
   exact h1.trans (BW q _)
 · exact BW (q.new (.cells 25 n.cells)) _
 · have h1:((q.new (.cells 25 n.cells)).new (.cells 3 [.i .i64 (d:Nat)])).box? i=(q.new (.cells 25 n.cells)).box? i:=Co (by simp [St.new]; omega)
   exact h1.trans (Co hi)
 · refine ((h.new _).new _).setLo ?_
   have:=h.lo
   have:=h.nb
   omega
 · refine ((Fq.new hq _).trans (Fq.new (by simp [St.new]; omega) _)).trans (Fq.lo' (by simp [St.new]; omega) ?_)
   exact Nat.min_le_left _ _
theorem flat_take {α:Type} {L:List (List α)} {i:Nat} {x:List α} (h:L[i]? = some x):(L.take (i+1)).flatten.length=(L.take i).flatten.length+x.length:=by
 rw [List.getElem?_eq_some_iff] at h
 obtain ⟨hi,rfl⟩:=h
 rw [List.take_succ_eq_append_getElem hi,List.flatten_append,List.length_append]
 simp
theorem UD {α:Type} {L:List (List α)} {i j:Nat} {x:List α} {a:α} (h:L[i]? = some x) (hj:x[j]? = some a):L.flatten[(L.take i).flatten.length+j]? = some a:=by
 rw [List.getElem?_eq_some_iff] at h
 obtain ⟨hi,rfl⟩:=h
 have:L.flatten=(L.take i).flatten++(L[i]++(L.drop (i+1)).flatten):=by
  conv=>lhs; rw [← List.take_append_drop i L,List.drop_eq_getElem_cons hi,List.flatten_append,List.flatten_cons]
 rw [this,List.getElem?_append_right (by omega),Nat.add_sub_cancel_left,List.getElem?_append_left]
 · exact hj
 · rw [List.getElem?_eq_some_iff] at hj; exact hj.1
theorem QM : ∀ n:IN,n.Ok→∀ d:Nat,d+nodesI n < 2^62→∀ {s:St} {xb lb:Nat},s.box? xb=some (.cells 3 [.i .i64 (d:Nat)])→s.box? lb=some (.cells 25 n.cells)→xb < s.nb→lb < s.nb →
    IterG prog (fun j=>j=xb∨j=lb) DL [.p xb 0,.p lb 0] (alV (allL n d)) s:=by
 refine IN.ind fun n ih ho d hd s xb lb hx hlb lx ll=>?_
 intro s0 hc h ky I R C hC hch B hI hov hw hh h0
 have hbel:=D9 n d
 obtain ⟨subs,hsubs⟩:∃ subs,(n.kids.map fun k=>allL k (d+1))=subs:=⟨_,rfl⟩
 rw [hsubs] at hbel
 rw [hbel] at B ⊢
 obtain ⟨r,s',hcall,rfl,hres⟩:=fn_G (f:=DL) (args:=[.yld ky,.p xb 0,.p lb 0]) (s:=s) (Post:=fun r s'=>r=.tup []∧Over s0 s'∧Wf s'∧s.nb≤s'.nb∧s.nt≤s'.nt∧(I C (alV ((d,n)::subs.flatten)).length s'∨R s')) SU rfl rfl (by
  have hend:∀ q,Over s0 q→Wf q→s.nb≤q.nb→s.nt≤q.nt→(I (Cin hc C s) (alV ((d,n)::subs.flatten)).length q∨R q)→KH s [] (fun r s'=>r=.tup []∧Over s0 s'∧Wf s'∧s.nb≤s'.nb∧s.nt≤s'.nt∧(I C (alV ((d,n)::subs.flatten)).length s'∨R s')) (some ([],q)):=fun q k1 k2 k3 k4 k5=>by
   refine ⟨_,_,rfl,rfl,SI hov k1 k3 k4 _,VS k2 k3 k4 _,VQ k3 _,VR k4 _,?_⟩
   exact k5.imp (fun k=>B.leave _ _ _ _ _ hC k hh k3 k4 k2 rfl) fun k=>B.leaveR _ _ _ k hh k3 k4 k2 rfl
  have hCi:TokSafe hc (Cin hc C s):=Cin.safe s
  have hIi:=B.enter _ _ _ hC hI hh
  have hz0:wkZ Cp.cin [.yld ky,.p xb 0,.p lb 0]=[.yld ky,.p xb 0,.p lb 0]:=by simp [Cp,wkZ,wk]
  have c1:(AV.yld ky).cells=[.yld ky]:=rfl
  have e0:s.enter.nb=s.nb:=rfl
  rw [hz0]
  obtain ⟨q1,hq1⟩:∃ q1,s.enter.new (.cells 118 [.yld ky])=q1:=⟨_,rfl⟩
  have w1:Wf q1:=by rw [← hq1]; exact hw.enter.new _
  have nb1:q1.nb=s.nb+1:=by rw [← hq1]; rfl
  have nt1:q1.nt=s.nt:=by rw [← hq1]; rfl
  have ov1:Over s0 q1:=by rw [← hq1]; exact hov.toEnter.new _
  have bx1:∀ i,i < s.nb→q1.box? i=s.box? i:=fun i hi=>by rw [← hq1,Co (by exact hi)]; rfl
  have by1:q1.box? s.nb=some (.cells 118 [.yld ky]):=by rw [← hq1]; exact BW s.enter _
  have I1:=B.stab _ _ _ q1 hCi hIi (by rw [← hq1]; exact Fq.new (show h≤s.enter.nb from hh) _)
  have ldy1:=Er (s:=q1) (v:=.yld ky) (off:=0) by1 rfl
  have ldd1:=Er (s:=q1) (v:=.i .i64 (d:Nat)) (off:=0) (by rw [bx1 xb lx]; exact hx) rfl
  have ldx1:ldA q1 true 4 (.p lb 0)=some (.agg n.cells):=by
   simp only [ldA,St.cells?,bx1 lb ll,hlb]; rfl
  obtain ⟨bb,q2,hstep,ht2,hf2,ov2,w2,nb2,nt2,keep2⟩:=B.step (Cin hc C s) 0 (by simp [alV]) q1 hCi I1 ov1 w1 (by omega)
  have hL0:(alV ((d,n)::subs.flatten))[0]'(by simp [alV])=[.i .i64 (d:Nat),.agg n.cells]:=rfl
  rw [hL0] at hstep
  have by2:q2.box? s.nb=some (.cells 118 [.yld ky]):=by rw [keep2 s.nb (.inr hh) (by omega)]; exact by1
  have bxx2:q2.box? xb=some (.cells 3 [.i .i64 (d:Nat)]):=by rw [keep2 xb (.inl (.inl rfl)) (by omega),bx1 xb lx]; exact hx
  have bxl2:q2.box? lb=some (.cells 25 n.cells):=by rw [keep2 lb (.inl (.inr rfl)) (by omega),bx1 lb ll]; exact hlb
  cases bb with
  | false =>
    simp only [Cp,go_sem,AD,AA,AC,AB,KB_n,KB_x,Nat.reduceBEq,Nat.reduceAdd,Nat.reduceLT,Nat.reduceLeDiff,Nat.reduceEqDiff,reduceIte,Int.reduceEq,reduceCtorEq,c1,e0,hq1,List.length_cons,List.length_nil,ldy1,ldd1,ldx1,DS,hstep]
    exact hend q2 ov2 w2 (by omega) (by omega) (.inr (hf2 rfl))
  | true =>
    have I2:=ht2 rfl
    have ldk2:=Er (s:=q2) (v:=.ws false 4 (n.kids.map IN.av)) (off:=3) bxl2 rfl
    have hkl:=ho.kids.2
    simp only [Cp,go_sem,AD,AA,AC,AB,KB_n,KB_x,Nat.reduceBEq,Nat.reduceAdd,Nat.reduceLT,Nat.reduceLeDiff,Nat.reduceEqDiff,reduceIte,Int.reduceEq,reduceCtorEq,c1,e0,hq1,List.length_cons,List.length_nil,ldy1,ldd1,ldx1,DS,hstep,ldk2,Nat.zero_add,List.length_map]
    refine BP (fun x e q=>∃ i:Nat,i+x=n.kids.length∧I (Cin hc C s) (1+((subs.take i).flatten).length) q∧Over s0 q∧Wf q∧q2.nb≤q.nb∧s.nt≤q.nt∧q.box? s.nb=some (.cells 118 [.yld ky])∧q.box? xb=some (.cells 3 [.i .i64 (d:Nat)]) ∧
     e.get 1=.p xb 0∧e.get 2=.p lb 0∧e.get 3=.p s.nb 0∧e.get 14=.ws false 4 (n.kids.map IN.av)∧e.get 15=.i .i64 (n.kids.length:Nat)∧e.get 16=.i .i64 (i:Nat)) ?_ n.kids.length _ _ ?_
    · rintro x e q ⟨i,hix,hIq,ovq,wq,nbq,ntq,bq1,bq3,g1,g2,g3,g14,g15,g16⟩
      by_cases hi:i < n.kids.length
      · have h1:((i:Int) < (n.kids.length:Int))=True:=eq_true (by omega)
        obtain ⟨k,hk⟩:∃ k,n.kids[i]? = some k:=⟨_,List.getElem?_eq_getElem hi⟩
        have hkm:=List.mem_of_getElem? hk
        have hko:=ho.kids.1 k hkm
        have hnk:=JK hkm
        have hk2:=Iu hk
        obtain ⟨q3,st3,w3,nb3,nt3,bf3,bx3,ov3,fq3⟩:=RI (q:=q) wq (T:=25) (m:=4) (z:=zI) (v:=.agg k.cells) rfl ⟨nc4 _,no4 _⟩ (OG k)
        have ov3:=ov3 s0 ovq
        have lk3:ldA q3 true 4 (.p q.nb 0)=some (.agg k.cells):=by
         simp only [ldA,St.cells?,bf3]; rfl
        have ld3:=Er (s:=q3) (v:=.i .i64 (d:Nat)) (off:=0) (by rw [bx3 xb (by omega)]; exact bq3) rfl
        have hwd:=AR (show d+1 < 2^63 by omega)
        obtain ⟨q5,d5,w5,nb5,nt5,bl5,bt5,bx5,ov5,fq5⟩:=RY (n:=k) (d:=d+1) w3
        have ov5:=ov5 s0 ov3
        have Isub:subs[i]? = some (allL k (d+1)):=by rw [← hsubs,List.getElem?_map,hk]; rfl
        have by5:q5.box? s.nb=some (.cells 118 [.yld ky]):=by rw [bx5 _ (by omega),bx3 _ (by omega)]; exact bq1
        have bxx5:q5.box? xb=some (.cells 3 [.i .i64 (d:Nat)]):=by rw [bx5 _ (by omega),bx3 _ (by omega)]; exact bq3
        have I5:=B.stab _ _ _ _ hCi hIq ((fq3 _ _ (by omega)).trans (fq5 _ _ (by omega)))
        simp only [go_sem,AD,AA,AC,AB,KB_n,KB_x,Nat.reduceBEq,Nat.reduceAdd,Nat.reduceLT,Nat.reduceLeDiff,Nat.reduceEqDiff,reduceIte,Int.reduceEq,reduceCtorEq,g1,g2,g3,g14,g15,g16,h1,AG,hk2,nld,DS,st3,lk3,ld3,hwd,d5]
        refine VU (g:=DL) (caps:=[.p (q3.nb+1) 0,.p q3.nb 0]) (by simp only [go_sem,AD,AA,AC,AB,KB_n,KB_x,Nat.reduceBEq,Nat.reduceAdd,Nat.reduceLT,Nat.reduceLeDiff,Nat.reduceEqDiff,reduceIte,Int.reduceEq,reduceCtorEq]) fun e' he'=>?_
        have z1:e'.get 1=.p xb 0:=by rw [he']; simp only [go_sem,AD,AA,AC,AB,KB_n,KB_x,Nat.reduceBEq,Nat.reduceAdd,Nat.reduceLT,Nat.reduceLeDiff,Nat.reduceEqDiff,reduceIte,Int.reduceEq,reduceCtorEq,g1]
        have z2:e'.get 2=.p lb 0:=by rw [he']; simp only [go_sem,AD,AA,AC,AB,KB_n,KB_x,Nat.reduceBEq,Nat.reduceAdd,Nat.reduceLT,Nat.reduceLeDiff,Nat.reduceEqDiff,reduceIte,Int.reduceEq,reduceCtorEq,g2]
        have z3:e'.get 3=.p s.nb 0:=by rw [he']; simp only [go_sem,AD,AA,AC,AB,KB_n,KB_x,Nat.reduceBEq,Nat.reduceAdd,Nat.reduceLT,Nat.reduceLeDiff,Nat.reduceEqDiff,reduceIte,Int.reduceEq,reduceCtorEq,g3]
        have z14:e'.get 14=.ws false 4 (n.kids.map IN.av):=by rw [he']; simp only [go_sem,AD,AA,AC,AB,KB_n,KB_x,Nat.reduceBEq,Nat.reduceAdd,Nat.reduceLT,Nat.reduceLeDiff,Nat.reduceEqDiff,reduceIte,Int.reduceEq,reduceCtorEq,g14]
        have z15:e'.get 15=.i .i64 (n.kids.length:Nat):=by rw [he']; simp only [go_sem,AD,AA,AC,AB,KB_n,KB_x,Nat.reduceBEq,Nat.reduceAdd,Nat.reduceLT,Nat.reduceLeDiff,Nat.reduceEqDiff,reduceIte,Int.reduceEq,reduceCtorEq,g15]
        have z16:e'.get 16=.i .i64 (i:Nat):=by rw [he']; simp only [go_sem,AD,AA,AC,AB,KB_n,KB_x,Nat.reduceBEq,Nat.reduceAdd,Nat.reduceLT,Nat.reduceLeDiff,Nat.reduceEqDiff,reduceIte,Int.reduceEq,reduceCtorEq,g16]
        clear he'
        obtain ⟨q6,hq6⟩:∃ q6,q5.new (.loop 0 none e' [24,25] aA aC)=q6:=⟨_,rfl⟩
        have w6:Wf q6:=by rw [← hq6]; exact w5.new _
        have nb6:q6.nb=q5.nb+1:=by rw [← hq6]; rfl
        have nt6:q6.nt=q5.nt:=by rw [← hq6]; rfl
        have ov6:Over s0 q6:=by rw [← hq6]; exact ov5.new _
        have bx6:∀ i,i < q5.nb→q6.box? i=q5.box? i:=fun i hi=>by rw [← hq6]; exact Co hi
        have bk6:q6.box? q5.nb=some (.loop 0 none e' [24,25] aA aC):=by rw [← hq6]; exact BW q5 _
        have fq6:Fq (fun j=>j=xb∨j=lb) h q5 q6:=by rw [← hq6]; exact Fq.new (by omega) _
        have B6:=YP (O1:=fun j=>j=q3.nb+1∨j=q3.nb) (Kp:=fun j=>j=s.nb∨j=xb) (qr:=q5) (k1:=q5.nb) (idy:=s.nb) (c:=1+((subs.take i).flatten).length) (L1:=allL k (d+1)) (e:=e') B (by omega)
         (fun j hj=>⟨by omega,by omega,by omega⟩) (fun j hj=>⟨by omega,by
          rcases hj with rfl | rfl
          · exact .inr hh
          · exact .inl (.inl rfl)⟩) (.inl rfl) by5 (by omega) z3 (fun j x hx=>by
          rw [Nat.add_assoc,Nat.add_comm 1,List.getElem?_cons_succ]
          exact UD Isub hx)
        obtain ⟨q7,d7,ov7,w7,nb7,nt7,hres7⟩:=ih k hkm hko (d+1) (by omega) (s:=q6) (xb:=q3.nb+1) (lb:=q3.nb) (by rw [bx6 _ (by omega)]; exact bt5) (by rw [bx6 _ (by omega)]; exact bl5) (by omega) (by omega)
         s0 hc (q5.nb+1) q5.nb _ _ (Cin hc C s) hCi (by omega) B6 ⟨B.stab _ _ _ _ hCi I5 fq6,bk6,fun i hi=>by
          rw [bx6 i (by rcases hi with rfl | rfl<;>omega)]⟩ ov6 w6 (by omega) (by omega)
        have bx7:∀ B i,(q7.setBox q5.nb B).box? i=if i=q5.nb then some B else q7.box? i:=fun B i=>setBox_box? w7.b (by omega) i
        have fq7:∀ B,Fq (fun j=>j=xb∨j=lb) h q7 (q7.setBox q5.nb B):=fun B=>Fq.setBox w7 (by omega) (.inl (by omega)) (by omega) _
        have ov8:∀ B,Over s0 (q7.setBox q5.nb B):=fun B=>Over.setBox ov7 (by omega) (by omega) _
        rw [← hq6] at d7
        rcases hres7 with ⟨hI7,hk7,hkp7⟩ | ⟨hR7,tm,ps,a,b,hk7⟩
        · refine ⟨_,q7,d7,_,_,_,_,_,_,hk7,by decide,?_⟩
          have hw1:=AR (show i+1 < 2^63 by omega)
          simp only [go_sem,AD,AA,AC,AB,KB_n,KB_x,Nat.reduceBEq,Nat.reduceAdd,Nat.reduceLT,Nat.reduceLeDiff,Nat.reduceEqDiff,reduceIte,Int.reduceEq,reduceCtorEq,z16,hw1]
          refine ⟨x - 1,by omega,i+1,by omega,?_,ov8 _,w7.setBox _ _,by show q2.nb≤q7.nb; omega,by show s.nt≤q7.nt; omega,by rw [bx7,if_neg (by omega),hkp7 _ (.inl rfl)]; exact by5,by rw [bx7,if_neg (by omega),hkp7 _ (.inr rfl)]; exact bxx5,z1,z2,z3,z14,z15,rfl⟩
          have:1+(subs.take (i+1)).flatten.length=1+(subs.take i).flatten.length+(alV (allL k (d+1))).length:=by
           rw [flat_take Isub]; simp [alV,Nat.add_assoc]
          rw [this]
          exact B.stab _ _ _ _ hCi hI7 (fq7 _)
        · refine ⟨_,q7,d7,_,_,_,_,_,_,hk7,by decide,?_⟩
          simp only [go_sem,AD,AA,AC,AB,KB_n,KB_x,Nat.reduceBEq,Nat.reduceAdd,Nat.reduceLT,Nat.reduceLeDiff,Nat.reduceEqDiff,reduceIte,Int.reduceEq,reduceCtorEq]
          exact hend _ (ov8 _) (w7.setBox _ _) (by show s.nb≤q7.nb; omega) (by show s.nt≤q7.nt; omega) (.inr (B.stabR _ _ hR7 (fq7 _)))
      · have h1:((i:Int) < (n.kids.length:Int))=False:=eq_false (by omega)
        simp only [go_sem,AD,AA,AC,AB,KB_n,KB_x,Nat.reduceBEq,Nat.reduceAdd,Nat.reduceLT,Nat.reduceLeDiff,Nat.reduceEqDiff,reduceIte,Int.reduceEq,reduceCtorEq,g15,g16,h1]
        refine hend q ovq wq (by omega) (by omega) (.inl ?_)
        have:subs.length≤i:=by rw [← hsubs]; simp; omega
        rw [List.take_of_length_le this] at hIq
        rw [Nat.add_comm] at hIq
        simpa only [alV,List.length_map,List.length_cons] using hIq
    · simp only [go_sem,AD,AA,AC,AB,KB_n,KB_x,Nat.reduceBEq,Nat.reduceAdd,Nat.reduceLT,Nat.reduceLeDiff,Nat.reduceEqDiff,reduceIte,Int.reduceEq,reduceCtorEq]
      exact ⟨0,by omega,I2,ov2,w2,Nat.le_refl _,by omega,by2,bxx2,rfl⟩)
 exact ⟨s',hcall,hres⟩

abbrev K19:List Nat:=[32,9,10,39,34,92,36,59,38,124,60,62,40,41,42,63,91,96,0]
theorem asK19:AsK K19:=⟨by decide,by decide,by decide⟩
def FA (c:Nat):List Nat→Bool
 | []=>false
 | a::_=>decide (a=c)
def PN (l:List Nat) (first:Bool):Bool:=decide (l≠[])&&(!Jj K19 l&&!(first&&(FA 35 l||FA 126 l)))
theorem Rc (l:List Nat) (hl:Txt l) (first:Bool) (s:St) (hw:Wf s):(lim prog).call Ij [.s l,.b first] s=some (.b (PN l first),s):=by
 refine fn_W PF rfl rfl ?_
 have hz0:wkZ CL.cin [.s l,.b first]=[.s l,.b first]:=by simp [CL,wkZ,wk]
 rw [hz0]
 have hb:∀ b,KR s [.id] (.b b) (some ([.b b],s.enter)):=fun b=>AL (Over.enter s) rfl rfl
 have hC:=Mi asK19 l hl s.enter hw.enter
 unfold PN
 cases l with
 | nil =>
   have e3:(([]:List Nat)≠[])=False:=by simp
   simp only [CL,go_sem,AD,AA,AC,AB,KB_n,KB_x,Nat.reduceBEq,Nat.reduceAdd,Nat.reduceLT,Nat.reduceLeDiff,Nat.reduceEqDiff,reduceIte,Int.reduceEq,reduceCtorEq,e3,decide_false,Bool.false_and]
   exact hb _
 | cons c t =>
   have e3:((c::t)≠[])=True:=by simp
   have n0:CX (.i .i64 0)=some 0:=rfl
   have g0':(c::t)[0]? = some c:=rfl
   cases ha:Jj K19 (c::t) with
   | true =>
     rw [ha] at hC
     simp only [CL,go_sem,AD,AA,AC,AB,KB_n,KB_x,Nat.reduceBEq,Nat.reduceAdd,Nat.reduceLT,Nat.reduceLeDiff,Nat.reduceEqDiff,reduceIte,Int.reduceEq,reduceCtorEq,e3,hC,Bool.not_true,Bool.false_and,Bool.and_false]
     exact hb _
   | false =>
     rw [ha] at hC
     cases first with
     | false =>
       simp only [CL,go_sem,AD,AA,AC,AB,KB_n,KB_x,Nat.reduceBEq,Nat.reduceAdd,Nat.reduceLT,Nat.reduceLeDiff,Nat.reduceEqDiff,reduceIte,Int.reduceEq,reduceCtorEq,e3,hC,decide_true,Bool.not_false,Bool.false_and,Bool.and_self]
       exact hb _
     | true =>
       simp only [FA]
       by_cases h1:c=35
       · have e1:((c:Int)=35)=True:=eq_true (by omega)
         simp only [CL,go_sem,AD,AA,AC,AB,KB_n,KB_x,Nat.reduceBEq,Nat.reduceAdd,Nat.reduceLT,Nat.reduceLeDiff,Nat.reduceEqDiff,reduceIte,Int.reduceEq,reduceCtorEq,e3,hC,n0,g0',e1,decide_true,Bool.not_false,Bool.true_and,decide_eq_true h1,Bool.true_or]
         exact hb _
       · have e1:((c:Int)=35)=False:=eq_false (by omega)
         have e2:decide ((c:Int)=126)=decide (c=126):=by simp only [decide_eq_decide]; omega
         simp only [CL,go_sem,AD,AA,AC,AB,KB_n,KB_x,Nat.reduceBEq,Nat.reduceAdd,Nat.reduceLT,Nat.reduceLeDiff,Nat.reduceEqDiff,reduceIte,Int.reduceEq,reduceCtorEq,e3,hC,n0,g0',e1,e2,decide_true,Bool.not_false,Bool.true_and,decide_eq_false h1,Bool.false_or]
         exact hb _
def FY (first:Bool) (p:PT):Bool:=if p.var then D5 p.text else if p.quoted then !decide (0∈p.text) else PN p.text first
def FN (p q:PT):Bool:=decide (p.quoted=q.quoted)&&((!p.var&&!q.var)||(p.quoted&&(decide (p.text=[])||decide (q.text=[]))))
def FO:Option PT→List PT→Bool
 | _,[]=>true
 | prev,p::t=>FY prev.isNone p&&((match prev with | none=>true | some q=>!FN p q)&&FO (some p) t)
def FP (l:List PT):Bool:=FO none l&&decide (0 < l.length)
def EJ (l:List PT) (i:Nat):Option PT:=if i=0 then none else l[i - 1]?
theorem PO:∀ L:List PT,wkM (.agg [.id,.id,.id]) (L.map PT.av)=L.map PT.av
 | []=>by simp [wkM]
 | p::L=>by
   have h:wk (.agg [.id,.id,.id]) p.av=p.av:=by simp [wk,PT.av,PT.cells,wkZ]
   rw [List.map_cons,wkM,h,PO L]
theorem LK:∀ o:Option PT,FO o []=true
 | none=>rfl
 | some _=>rfl
theorem Dx (o:Option PT) (p:PT) (t:List PT):FO o (p::t)=(FY o.isNone p&&((match o with | none=>true | some q=>!FN p q)&&FO (some p) t)):=by cases o<;>rfl
theorem YX {p r:PT} {q:St} {a b:Nat} {e:Tr} {Q:Ex→Tr→St→Prop} (g4:e.get 4=.p a 0) (g6:e.get 6=.p b 0)
    (j0:ldA q false 1 (.p a 0)=some (.b p.var)) (j1:ldA q false 1 (.p a 1)=some (.s p.text)) (j2:ldA q false 1 (.p a 2)=some (.b p.quoted))
    (m0:ldA q false 1 (.p b 0)=some (.b r.var)) (m1:ldA q false 1 (.p b 1)=some (.s r.text)) (m2:ldA q false 1 (.p b 2)=some (.b r.quoted))
    (k:∀ e',Sm 43 e e'→e'.get 71=.b (FN p r)→Q .n e' q) :
    W (lim prog) (.reg [⟨(some 43),.fa 2 (.t 4),none⟩,⟨(some 44),.ld false 1 (.t 43),none⟩,⟨(some 45),.fa 2 (.t 6),none⟩,⟨(some 46),.ld false 1 (.t 45),none⟩,⟨(some 47),.eq .bool false (.t 44) (.t 46),none⟩,⟨(some 48),.mv (.t 47),none⟩,⟨(some 49),.fa 0 (.t 4),(some (48,true))⟩,⟨(some 50),.ld false 1 (.t 49),(some (48,true))⟩,⟨(some 51),.un .not (.t 50),(some (48,true))⟩,⟨(some 52),.mv (.t 51),(some (48,true))⟩,⟨(some 53),.fa 0 (.t 6),(some (52,true))⟩,⟨(some 54),.ld false 1 (.t 53),(some (52,true))⟩,⟨(some 55),.un .not (.t 54),(some (52,true))⟩,⟨(some 56),.pick (.t 52) (.t 55) (.c (.b false)),(some (48,true))⟩,⟨(some 57),.mv (.t 56),(some (48,true))⟩,⟨(some 58),.fa 2 (.t 4),(some (57,false))⟩,⟨(some 59),.ld false 1 (.t 58),(some (57,false))⟩,⟨(some 60),.mv (.t 59),(some (57,false))⟩,⟨(some 61),.fa 1 (.t 4),(some (60,true))⟩,⟨(some 62),.ld false 1 (.t 61),(some (60,true))⟩,⟨(some 63),.bin .eql (.t 62) (.c (.s [])),(some (60,true))⟩,⟨(some 64),.mv (.t 63),(some (60,true))⟩,⟨(some 65),.fa 1 (.t 6),(some (64,false))⟩,⟨(some 66),.ld false 1 (.t 65),(some (64,false))⟩,⟨(some 67),.bin .eql (.t 66) (.c (.s [])),(some (64,false))⟩,⟨(some 68),.pick (.t 64) (.c (.b true)) (.t 67),(some (60,true))⟩,⟨(some 69),.pick (.t 60) (.t 68) (.c (.b false)),(some (57,false))⟩,⟨(some 70),.pick (.t 57) (.c (.b true)) (.t 69),(some (48,true))⟩,⟨(some 71),.pick (.t 48) (.t 70) (.c (.b false)),none⟩]) e q Q:=by
 have sm:∀ e',Sm 43 e e'→e'.get 71=.b (FN p r)→Q .n e' q:=k
 obtain ⟨bt,hbt⟩:∃ bt,FN p r=bt:=⟨_,rfl⟩
 rw [hbt] at k
 unfold FN at hbt
 cases hpq:p.quoted<;>cases hrq:r.quoted<;>cases hpv:p.var<;>cases hrv:r.var<;>rcases Classical.propComplete (p.text=[]) with hpt | hpt<;>rcases Classical.propComplete (r.text=[]) with hrt | hrt <;>
  (rw [hpq] at j2 hbt; rw [hrq] at m2 hbt; rw [hpv] at j0 hbt; rw [hrv] at m0 hbt
   simp only [hpt,hrt,decide_true,decide_false,Bool.not_true,Bool.not_false,Bool.and_true,Bool.and_false,Bool.true_and,Bool.false_and,Bool.or_true,Bool.or_false,Bool.true_or,Bool.false_or,reduceCtorEq] at hbt
   subst hbt
   simp only [go_sem,AD,AA,AC,AB,KB_n,KB_x,Nat.reduceBEq,Nat.reduceAdd,Nat.reduceLT,Nat.reduceLeDiff,Nat.reduceEqDiff,reduceIte,Int.reduceEq,reduceCtorEq,g4,g6,j0,j1,j2,m0,m1,m2,hpt,hrt,Nat.zero_add]
   refine k _ ?_ ?_
   · repeat (first | exact Sm.refl _ _ | refine Sm.put ?_ (by decide) (by decide))
   · simp only [go_sem,AD,AA,AC,AB,KB_n,KB_x,Nat.reduceBEq,Nat.reduceAdd,Nat.reduceLT,Nat.reduceLeDiff,Nat.reduceEqDiff,reduceIte,Int.reduceEq,reduceCtorEq])
theorem JL {p r:PT} {q:St} {a b:Nat} {e:Tr} {Q:Ex→Tr→St→Prop} (g4:e.get 4=.p a 0) (g6:e.get 6=.p b 0)
    (j0:ldA q false 1 (.p a 0)=some (.b p.var)) (j1:ldA q false 1 (.p a 1)=some (.s p.text)) (j2:ldA q false 1 (.p a 2)=some (.b p.quoted))
    (m0:ldA q false 1 (.p b 0)=some (.b r.var)) (m1:ldA q false 1 (.p b 1)=some (.s r.text)) (m2:ldA q false 1 (.p b 2)=some (.b r.quoted))
    (k:∀ e',Sm 43 e e'→e'.get 71=.b (FN p r)→Q .n e' q) :
    WS (ldR q (ldA q false 1 (.p a 2))) (KO (lim prog) (some 44) [⟨(some 45),.fa 2 (.t 6),none⟩,⟨(some 46),.ld false 1 (.t 45),none⟩,⟨(some 47),.eq .bool false (.t 44) (.t 46),none⟩,⟨(some 48),.mv (.t 47),none⟩,⟨(some 49),.fa 0 (.t 4),(some (48,true))⟩,⟨(some 50),.ld false 1 (.t 49),(some (48,true))⟩,⟨(some 51),.un .not (.t 50),(some (48,true))⟩,⟨(some 52),.mv (.t 51),(some (48,true))⟩,⟨(some 53),.fa 0 (.t 6),(some (52,true))⟩,⟨(some 54),.ld false 1 (.t 53),(some (52,true))⟩,⟨(some 55),.un .not (.t 54),(some (52,true))⟩,⟨(some 56),.pick (.t 52) (.t 55) (.c (.b false)),(some (48,true))⟩,⟨(some 57),.mv (.t 56),(some (48,true))⟩,⟨(some 58),.fa 2 (.t 4),(some (57,false))⟩,⟨(some 59),.ld false 1 (.t 58),(some (57,false))⟩,⟨(some 60),.mv (.t 59),(some (57,false))⟩,⟨(some 61),.fa 1 (.t 4),(some (60,true))⟩,⟨(some 62),.ld false 1 (.t 61),(some (60,true))⟩,⟨(some 63),.bin .eql (.t 62) (.c (.s [])),(some (60,true))⟩,⟨(some 64),.mv (.t 63),(some (60,true))⟩,⟨(some 65),.fa 1 (.t 6),(some (64,false))⟩,⟨(some 66),.ld false 1 (.t 65),(some (64,false))⟩,⟨(some 67),.bin .eql (.t 66) (.c (.s [])),(some (64,false))⟩,⟨(some 68),.pick (.t 64) (.c (.b true)) (.t 67),(some (60,true))⟩,⟨(some 69),.pick (.t 60) (.t 68) (.c (.b false)),(some (57,false))⟩,⟨(some 70),.pick (.t 57) (.c (.b true)) (.t 69),(some (48,true))⟩,⟨(some 71),.pick (.t 48) (.t 70) (.c (.b false)),none⟩] (e.set 10 43 (.p a 2)) (KN Q)):=by
 have h:=YX g4 g6 j0 j1 j2 m0 m1 m2 k
 simp only [go_sem,AD,AA,AC,AB,KB_n,KB_x,Nat.reduceBEq,Nat.reduceAdd,Nat.reduceLT,Nat.reduceLeDiff,Nat.reduceEqDiff,reduceIte,Int.reduceEq,reduceCtorEq,g4,Nat.zero_add] at h
 exact h
theorem CW {l:List PT} {i:Nat} {p:PT} (h:l[i]? = some p):EJ l (i+1)=some p:=by simp [EJ,h]
def SlP (s:St) (a:AV) (l:List PT):Prop:=a=.ws false 3 (l.map PT.av)∨∃ id T rm fz x,a=.bl id 3 0 l.length x∧id < s.nb∧s.box? id=some (.row T (l.map PT.cells).flatten fz rm)
theorem flat3:∀ {l:List PT} {i:Nat} {p:PT},l[i]? = some p→((l.map PT.cells).flatten.drop (i*3)).take 3=p.cells
 | [],_,_,h=>by simp at h
 | q::l,0,p,h=>by
   simp only [List.getElem?_cons_zero,Option.some.injEq] at h
   subst h; rfl
 | q::l,i+1,p,h=>by
   rw [List.getElem?_cons_succ] at h
   have:=flat3 h
   rw [List.map_cons,List.flatten_cons,show (i+1)*3=i*3+3 by omega,Nat.add_comm,← List.drop_drop]
   exact this
theorem QO {q:St} {id T rm i:Nat} {fz:Bool} {l:List PT} {p:PT} (hb:q.box? id=some (.row T (l.map PT.cells).flatten fz rm)) (h:l[i]? = some p):ldA q true 3 (.p id (i*3))=some (.agg p.cells):=by
 have hcut:cut (l.map PT.cells).flatten (i*3) 3=some p.cells:=by
  unfold cut
  rw [flat3 h]
  rfl
 simp only [ldA,St.cells?,hb,hcut]
 rfl
theorem NO (l:List PT) (hl:∀ p∈l,Txt p.text) (hn:l.length < 2^40) (s:St) {a:AV} (ha:SlP s a l) (hw:Wf s):(lim prog).call LI [.agg [a,.i .i64 0]] s=some (.b (FP l),s):=by
 refine fn_W SS rfl rfl ?_
 have hz0:wkZ D3.cin [.agg [a,.i .i64 0]]=[.agg [a,.i .i64 0]]:=by
  rcases ha with rfl | ⟨id,T,rm,fz,x,rfl,_,_⟩
  · simp only [D3,wkZ,wk,PO]
  · simp only [D3,wkZ,wk]
 have hac:a.cells=[a]∧ones [a]=true:=by
  rcases ha with rfl | ⟨id,T,rm,fz,x,rfl,_,_⟩<;>exact ⟨rfl,rfl⟩
 rw [hz0]
 have e0:s.enter.nb=s.nb:=rfl
 have H1:=(Hp.begin hw).new (.cells 102 [a,.i .i64 0])
 obtain ⟨q1,hq1⟩:∃ q1,s.enter.new (.cells 102 [a,.i .i64 0])=q1:=⟨_,rfl⟩
 rw [hq1,e0] at H1
 have c2:∀ x y:AV,[x,y].length=2:=fun _ _=>rfl
 have l7:=H1.ld 0 (off:=0) (v:=a) rfl rfl
 have l11:∀ v:AV,([v].length=1)=True:=fun _=>eq_true rfl
 rcases ha with rfl | ⟨id,T,rm,fz,xx,rfl,hid,hbx⟩
 · simp only [D3,go_sem,AD,AA,AC,AB,KB_n,KB_x,Nat.reduceBEq,Nat.reduceAdd,Nat.reduceLT,Nat.reduceLeDiff,Nat.reduceEqDiff,reduceIte,Int.reduceEq,reduceCtorEq,c2,hq1,e0,l7,List.length_map]
   refine BP (fun x e q=>∃ i:Nat,i+x=l.length∧Hp s q s.en [] [(s.nb,.cells 102 [AV.ws false 3 (l.map PT.av),.i .i64 0])]∧FO (EJ l i) (l.drop i)=FO none l∧e.get 1=.p s.nb 0∧e.get 8=AV.ws false 3 (l.map PT.av)∧e.get 9=.i .i64 (l.length:Nat)∧e.get 10=.i .i64 (i:Nat)) ?_ l.length _ _ ?_
   · rintro x e q ⟨i,hix,H,hinv,g1,g8,g9,g10⟩
     by_cases hi:i < l.length
     · have h1 : ((i:Int) < (l.length:Int))=True:=eq_true (by omega)
       obtain ⟨p,hp⟩:∃ p,l[i]? = some p:=⟨_,List.getElem?_eq_getElem hi⟩
       have hpo:=hl p (List.mem_of_getElem? hp)
       have hg:=Is hp
       have hdr:l.drop i=p::l.drop (i+1):=by
        rw [List.getElem?_eq_some_iff] at hp
        obtain ⟨h,rfl⟩:=hp
        exact List.drop_eq_getElem_cons h
       have H2:=H.new (.cells 85 [.b false,.s [],.b false])
       obtain ⟨q2,hq2⟩:∃ q2,q.new (.cells 85 [.b false,.s [],.b false])=q2:=⟨_,rfl⟩
       rw [hq2] at H2
       obtain ⟨q3,d3,H3,n3,_⟩:=H2.stw 0 (m:=3) (v:=.agg p.cells) rfl rfl ⟨pc3 p,po3 p⟩
       have k0:=H3.ld 0 (off:=0) (v:=.b p.var) rfl rfl
       have k1:=H3.ld 0 (off:=1) (v:=.s p.text) rfl rfl
       have k2:=H3.ld 0 (off:=2) (v:=.b p.quoted) rfl rfl
       have hP:=OM p.text hpo q3
       have hC:=FM p.text 0 (by omega) q3
       have hL:=Rc p.text hpo (decide ((i:Int)=0)) q3 H3.wf
       have hdc:decide ((i:Int)=0)=decide (i=0):=by simp only [decide_eq_decide]; omega
       rw [hdc] at hL
       rw [hdr,Dx] at hinv
       have hpn:(EJ l i).isNone=decide (i=0):=by
        unfold EJ
        by_cases h0:i=0
        · simp [h0]
        · rw [if_neg h0,List.getElem?_eq_getElem (by omega)]; simp [h0]
       rw [hpn] at hinv
       have hw1:=AR (show i+1 < 2^63 by omega)
       have hD:Hp s q3 s.en [] [(s.nb,.cells 102 [AV.ws false 3 (l.map PT.av),.i .i64 0])]:=H3.dropB
       cases hb:FY (decide (i=0)) p with
       | false =>
         rw [hb,Bool.false_and] at hinv
         have hwf:FP l=false:=by unfold FP; rw [← hinv]; rfl
         rw [hwf]
         have hfin:KR s [.id] (.b false) (some ([.b false],q3)):=AL H3.over rfl rfl
         unfold FY at hb
         cases hv:p.var with
         | true =>
           rw [hv,if_pos rfl] at hb
           rw [hv] at k0
           rw [hb] at hP
           simp only [go_sem,AD,AA,AC,AB,KB_n,KB_x,Nat.reduceBEq,Nat.reduceAdd,Nat.reduceLT,Nat.reduceLeDiff,Nat.reduceEqDiff,reduceIte,Int.reduceEq,reduceCtorEq,g1,g8,g9,g10,h1,AG,hg,pld,Dw,pc3,hq2,d3,k0,k1,hP]
           exact hfin
         | false =>
           rw [hv,if_neg (by simp)] at hb
           rw [hv] at k0
           cases hqq:p.quoted with
           | true =>
             rw [hqq,if_pos rfl] at hb
             rw [hqq] at k2
             have hc0:decide (0∈p.text)=true:=by simpa using hb
             rw [hc0] at hC
             simp only [go_sem,AD,AA,AC,AB,KB_n,KB_x,Nat.reduceBEq,Nat.reduceAdd,Nat.reduceLT,Nat.reduceLeDiff,Nat.reduceEqDiff,reduceIte,Int.reduceEq,reduceCtorEq,g1,g8,g9,g10,h1,AG,hg,pld,Dw,pc3,hq2,d3,k0,k1,k2,hC]
             exact hfin
           | false =>
             rw [hqq,if_neg (by simp)] at hb
             rw [hqq] at k2
             rw [hb] at hL
             simp only [go_sem,AD,AA,AC,AB,KB_n,KB_x,Nat.reduceBEq,Nat.reduceAdd,Nat.reduceLT,Nat.reduceLeDiff,Nat.reduceEqDiff,reduceIte,Int.reduceEq,reduceCtorEq,g1,g8,g9,g10,h1,AG,hg,pld,Dw,pc3,hq2,d3,k0,k1,k2,hdc,hL]
             exact hfin
       | true =>
         rw [hb,Bool.true_and] at hinv
         unfold FY at hb
         by_cases h0:i=0
         · have e0':((i:Int)=0)=True:=eq_true (by omega)
           have hpv0:EJ l i=none:=by simp [EJ,h0]
           rw [hpv0] at hinv
           simp only [Bool.true_and] at hinv
           cases hv:p.var with
           | true =>
             rw [hv,if_pos rfl] at hb
             rw [hv] at k0
             rw [hb] at hP
             simp only [go_sem,AD,AA,AC,AB,KB_n,KB_x,Nat.reduceBEq,Nat.reduceAdd,Nat.reduceLT,Nat.reduceLeDiff,Nat.reduceEqDiff,reduceIte,Int.reduceEq,reduceCtorEq,g1,g8,g9,g10,h1,AG,hg,pld,Dw,pc3,hq2,d3,k0,k1,hP,e0',hw1]
             exact ⟨x - 1,by omega,i+1,by omega,hD,by rw [CW hp]; exact hinv,rfl⟩
           | false =>
             rw [hv,if_neg (by simp)] at hb
             rw [hv] at k0
             cases hqq:p.quoted with
             | true =>
               rw [hqq,if_pos rfl] at hb
               rw [hqq] at k2
               have hc0:decide (0∈p.text)=false:=by simpa using hb
               rw [hc0] at hC
               simp only [go_sem,AD,AA,AC,AB,KB_n,KB_x,Nat.reduceBEq,Nat.reduceAdd,Nat.reduceLT,Nat.reduceLeDiff,Nat.reduceEqDiff,reduceIte,Int.reduceEq,reduceCtorEq,g1,g8,g9,g10,h1,AG,hg,pld,Dw,pc3,hq2,d3,k0,k1,k2,hC,e0',hw1]
               exact ⟨x - 1,by omega,i+1,by omega,hD,by rw [CW hp]; exact hinv,rfl⟩
             | false =>
               rw [hqq,if_neg (by simp)] at hb
               rw [hqq] at k2
               rw [hb] at hL
               rw [decide_eq_true h0] at hL
               simp only [go_sem,AD,AA,AC,AB,KB_n,KB_x,Nat.reduceBEq,Nat.reduceAdd,Nat.reduceLT,Nat.reduceLeDiff,Nat.reduceEqDiff,reduceIte,Int.reduceEq,reduceCtorEq,g1,g8,g9,g10,h1,AG,hg,pld,Dw,pc3,hq2,d3,k0,k1,k2,e0',decide_true,hL,hw1]
               exact ⟨x - 1,by omega,i+1,by omega,hD,by rw [CW hp]; exact hinv,rfl⟩
         · have e0':((i:Int)=0)=False:=eq_false (by omega)
           obtain ⟨r,hr⟩:∃ r,l[i - 1]? = some r:=⟨_,List.getElem?_eq_getElem (by omega)⟩
           have hpv0:EJ l i=some r:=by simp [EJ,h0,hr]
           rw [hpv0] at hinv
           simp only at hinv
           have hgr:=Is hr
           have hws:IntKind.i64.wrap ((i:Int) - 1)=((i - 1:Nat):Int):=by
            rw [show (i:Int) - 1=((i - 1:Nat):Int) by omega]; exact GO (by omega)
           have l7':=H3.ld 1 (off:=0) (v:=AV.ws false 3 (l.map PT.av)) rfl rfl
           have H4:=H3.new (.cells 85 [.b false,.s [],.b false])
           obtain ⟨q4,hq4⟩:∃ q4,q3.new (.cells 85 [.b false,.s [],.b false])=q4:=⟨_,rfl⟩
           rw [hq4] at H4
           obtain ⟨q5,d5,H5,n5,_⟩:=H4.stw 0 (m:=3) (v:=.agg r.cells) rfl rfl ⟨pc3 r,po3 r⟩
           have m0:=H5.ld 0 (off:=0) (v:=.b r.var) rfl rfl
           have m1:=H5.ld 0 (off:=1) (v:=.s r.text) rfl rfl
           have m2:=H5.ld 0 (off:=2) (v:=.b r.quoted) rfl rfl
           have j0:=H5.ld 1 (off:=0) (v:=.b p.var) rfl rfl
           have j1:=H5.ld 1 (off:=1) (v:=.s p.text) rfl rfl
           have j2:=H5.ld 1 (off:=2) (v:=.b p.quoted) rfl rfl
           have hD5:Hp s q5 s.en [] [(s.nb,.cells 102 [AV.ws false 3 (l.map PT.av),.i .i64 0])]:=H5.dropB.dropB
           have hF:FP l=false→KR s [.id] (.b (FP l)) (some ([.b false],q5)):=fun h=>AL H5.over rfl (by rw [h]; rfl)
           have hW:false=FO none l→FP l=false:=fun h=>by unfold FP; rw [← h]; rfl
           have hdc0:decide (i=0)=false:=decide_eq_false h0
           rw [hdc0] at hL hb
           cases hv:p.var with
           | true =>
             rw [hv,if_pos rfl] at hb
             rw [hv] at k0
             rw [hb] at hP
             simp only [go_sem,AD,AA,AC,AB,KB_n,KB_x,Nat.reduceBEq,Nat.reduceAdd,Nat.reduceLT,Nat.reduceLeDiff,Nat.reduceEqDiff,reduceIte,Int.reduceEq,reduceCtorEq,g1,g8,g9,g10,h1,AG,hg,pld,hgr,Dw,pc3,hq2,d3,k0,k1,hP,e0',l7',hws,hq4,d5]
             refine JL (p:=p) (r:=r) (by simp only [go_sem,AD,AA,AC,AB,KB_n,KB_x,Nat.reduceBEq,Nat.reduceAdd,Nat.reduceLT,Nat.reduceLeDiff,Nat.reduceEqDiff,reduceIte,Int.reduceEq,reduceCtorEq]) (by simp only [go_sem,AD,AA,AC,AB,KB_n,KB_x,Nat.reduceBEq,Nat.reduceAdd,Nat.reduceLT,Nat.reduceLeDiff,Nat.reduceEqDiff,reduceIte,Int.reduceEq,reduceCtorEq]) j0 j1 j2 m0 m1 m2 fun e' hsm hbt=>?_
             have y1:=hsm 1 (by decide)
             have y8:=hsm 8 (by decide)
             have y9:=hsm 9 (by decide)
             have y10:=hsm 10 (by decide)
             simp only [go_sem,AD,AA,AC,AB,KB_n,KB_x,Nat.reduceBEq,Nat.reduceAdd,Nat.reduceLT,Nat.reduceLeDiff,Nat.reduceEqDiff,reduceIte,Int.reduceEq,reduceCtorEq,g1,g8,g9,g10] at y1 y8 y9 y10
             cases hb2:FN p r with
             | true =>
               rw [hb2] at hbt hinv
               simp only [go_sem,AD,AA,AC,AB,KB_n,KB_x,Nat.reduceBEq,Nat.reduceAdd,Nat.reduceLT,Nat.reduceLeDiff,Nat.reduceEqDiff,reduceIte,Int.reduceEq,reduceCtorEq,hbt]
               exact hF (hW hinv)
             | false =>
               rw [hb2] at hbt hinv
               simp only [go_sem,AD,AA,AC,AB,KB_n,KB_x,Nat.reduceBEq,Nat.reduceAdd,Nat.reduceLT,Nat.reduceLeDiff,Nat.reduceEqDiff,reduceIte,Int.reduceEq,reduceCtorEq,hbt,y1,y8,y9,y10,hw1]
               exact ⟨x - 1,by omega,i+1,by omega,hD5,by rw [CW hp]; exact hinv,rfl⟩
           | false =>
             rw [hv,if_neg (by simp)] at hb
             rw [hv] at k0
             cases hpq:p.quoted with
             | true =>
               rw [hpq,if_pos rfl] at hb
               rw [hpq] at k2
               have hc0:decide (0∈p.text)=false:=by simpa using hb
               rw [hc0] at hC
               simp only [go_sem,AD,AA,AC,AB,KB_n,KB_x,Nat.reduceBEq,Nat.reduceAdd,Nat.reduceLT,Nat.reduceLeDiff,Nat.reduceEqDiff,reduceIte,Int.reduceEq,reduceCtorEq,g1,g8,g9,g10,h1,AG,hg,pld,hgr,Dw,pc3,hq2,d3,k0,k1,k2,hC,e0',l7',hws,hq4,d5]
               refine JL (p:=p) (r:=r) (by simp only [go_sem,AD,AA,AC,AB,KB_n,KB_x,Nat.reduceBEq,Nat.reduceAdd,Nat.reduceLT,Nat.reduceLeDiff,Nat.reduceEqDiff,reduceIte,Int.reduceEq,reduceCtorEq]) (by simp only [go_sem,AD,AA,AC,AB,KB_n,KB_x,Nat.reduceBEq,Nat.reduceAdd,Nat.reduceLT,Nat.reduceLeDiff,Nat.reduceEqDiff,reduceIte,Int.reduceEq,reduceCtorEq]) j0 j1 j2 m0 m1 m2 fun e' hsm hbt=>?_
               have y1:=hsm 1 (by decide)
               have y8:=hsm 8 (by decide)
               have y9:=hsm 9 (by decide)
               have y10:=hsm 10 (by decide)
               simp only [go_sem,AD,AA,AC,AB,KB_n,KB_x,Nat.reduceBEq,Nat.reduceAdd,Nat.reduceLT,Nat.reduceLeDiff,Nat.reduceEqDiff,reduceIte,Int.reduceEq,reduceCtorEq,g1,g8,g9,g10] at y1 y8 y9 y10
               cases hb2:FN p r with
               | true =>
                 rw [hb2] at hbt hinv
                 simp only [go_sem,AD,AA,AC,AB,KB_n,KB_x,Nat.reduceBEq,Nat.reduceAdd,Nat.reduceLT,Nat.reduceLeDiff,Nat.reduceEqDiff,reduceIte,Int.reduceEq,reduceCtorEq,hbt]
                 exact hF (hW hinv)
               | false =>
                 rw [hb2] at hbt hinv
                 simp only [go_sem,AD,AA,AC,AB,KB_n,KB_x,Nat.reduceBEq,Nat.reduceAdd,Nat.reduceLT,Nat.reduceLeDiff,Nat.reduceEqDiff,reduceIte,Int.reduceEq,reduceCtorEq,hbt,y1,y8,y9,y10,hw1]
                 exact ⟨x - 1,by omega,i+1,by omega,hD5,by rw [CW hp]; exact hinv,rfl⟩
             | false =>
               rw [hpq,if_neg (by simp)] at hb
               rw [hpq] at k2
               rw [hb] at hL
               simp only [go_sem,AD,AA,AC,AB,KB_n,KB_x,Nat.reduceBEq,Nat.reduceAdd,Nat.reduceLT,Nat.reduceLeDiff,Nat.reduceEqDiff,reduceIte,Int.reduceEq,reduceCtorEq,g1,g8,g9,g10,h1,AG,hg,pld,hgr,Dw,pc3,hq2,d3,k0,k1,k2,e0',decide_false,hL,l7',hws,hq4,d5]
               refine JL (p:=p) (r:=r) (by simp only [go_sem,AD,AA,AC,AB,KB_n,KB_x,Nat.reduceBEq,Nat.reduceAdd,Nat.reduceLT,Nat.reduceLeDiff,Nat.reduceEqDiff,reduceIte,Int.reduceEq,reduceCtorEq]) (by simp only [go_sem,AD,AA,AC,AB,KB_n,KB_x,Nat.reduceBEq,Nat.reduceAdd,Nat.reduceLT,Nat.reduceLeDiff,Nat.reduceEqDiff,reduceIte,Int.reduceEq,reduceCtorEq]) j0 j1 j2 m0 m1 m2 fun e' hsm hbt=>?_
               have y1:=hsm 1 (by decide)
               have y8:=hsm 8 (by decide)
               have y9:=hsm 9 (by decide)
               have y10:=hsm 10 (by decide)
               simp only [go_sem,AD,AA,AC,AB,KB_n,KB_x,Nat.reduceBEq,Nat.reduceAdd,Nat.reduceLT,Nat.reduceLeDiff,Nat.reduceEqDiff,reduceIte,Int.reduceEq,reduceCtorEq,g1,g8,g9,g10] at y1 y8 y9 y10
               cases hb2:FN p r with
               | true =>
                 rw [hb2] at hbt hinv
                 simp only [go_sem,AD,AA,AC,AB,KB_n,KB_x,Nat.reduceBEq,Nat.reduceAdd,Nat.reduceLT,Nat.reduceLeDiff,Nat.reduceEqDiff,reduceIte,Int.reduceEq,reduceCtorEq,hbt]
                 exact hF (hW hinv)
               | false =>
                 rw [hb2] at hbt hinv
                 simp only [go_sem,AD,AA,AC,AB,KB_n,KB_x,Nat.reduceBEq,Nat.reduceAdd,Nat.reduceLT,Nat.reduceLeDiff,Nat.reduceEqDiff,reduceIte,Int.reduceEq,reduceCtorEq,hbt,y1,y8,y9,y10,hw1]
                 exact ⟨x - 1,by omega,i+1,by omega,hD5,by rw [CW hp]; exact hinv,rfl⟩
     · have h1:((i:Int) < (l.length:Int))=False:=eq_false (by omega)
       have l7:=H.ld 0 (off:=0) (v:=AV.ws false 3 (l.map PT.av)) rfl rfl
       rw [List.drop_of_length_le (by omega),LK] at hinv
       have hwf:FP l=decide ((0:Int) < (l.length:Int)):=by
        unfold FP; rw [← hinv,Bool.true_and]; simp only [decide_eq_decide]; omega
       rw [hwf]
       simp only [go_sem,AD,AA,AC,AB,KB_n,KB_x,Nat.reduceBEq,Nat.reduceAdd,Nat.reduceLT,Nat.reduceLeDiff,Nat.reduceEqDiff,reduceIte,Int.reduceEq,reduceCtorEq,g1,g8,g9,g10,h1,l7,List.length_map]
       exact AL H.over rfl rfl
   · simp only [go_sem,AD,AA,AC,AB,KB_n,KB_x,Nat.reduceBEq,Nat.reduceAdd,Nat.reduceLT,Nat.reduceLeDiff,Nat.reduceEqDiff,reduceIte,Int.reduceEq,reduceCtorEq]
     exact ⟨0,by omega,H1,rfl,rfl⟩
 · simp only [D3,go_sem,AD,AA,AC,AB,KB_n,KB_x,Nat.reduceBEq,Nat.reduceAdd,Nat.reduceLT,Nat.reduceLeDiff,Nat.reduceEqDiff,reduceIte,Int.reduceEq,reduceCtorEq,c2,hq1,e0,l7,List.length_map]
   refine BP (fun x e q=>∃ i:Nat,i+x=l.length∧Hp s q s.en [] [(s.nb,.cells 102 [AV.bl id 3 0 l.length xx,.i .i64 0])]∧FO (EJ l i) (l.drop i)=FO none l∧e.get 1=.p s.nb 0∧e.get 8=AV.bl id 3 0 l.length xx∧e.get 9=.i .i64 (l.length:Nat)∧e.get 10=.i .i64 (i:Nat)) ?_ l.length _ _ ?_
   · rintro x e q ⟨i,hix,H,hinv,g1,g8,g9,g10⟩
     by_cases hi:i < l.length
     · have h1 : ((i:Int) < (l.length:Int))=True:=eq_true (by omega)
       obtain ⟨p,hp⟩:∃ p,l[i]? = some p:=⟨_,List.getElem?_eq_getElem hi⟩
       have hpo:=hl p (List.mem_of_getElem? hp)
       have hlt0:(i < l.length)=True:=eq_true hi
       have lp:ldA q true 3 (.p id (i*3))=some (.agg p.cells):=QO (by rw [Kd H.over hid]; exact hbx) hp
       have hdr:l.drop i=p::l.drop (i+1):=by
        rw [List.getElem?_eq_some_iff] at hp
        obtain ⟨h,rfl⟩:=hp
        exact List.drop_eq_getElem_cons h
       have H2:=H.new (.cells 85 [.b false,.s [],.b false])
       obtain ⟨q2,hq2⟩:∃ q2,q.new (.cells 85 [.b false,.s [],.b false])=q2:=⟨_,rfl⟩
       rw [hq2] at H2
       obtain ⟨q3,d3,H3,n3,_⟩:=H2.stw 0 (m:=3) (v:=.agg p.cells) rfl rfl ⟨pc3 p,po3 p⟩
       have k0:=H3.ld 0 (off:=0) (v:=.b p.var) rfl rfl
       have k1:=H3.ld 0 (off:=1) (v:=.s p.text) rfl rfl
       have k2:=H3.ld 0 (off:=2) (v:=.b p.quoted) rfl rfl
       have hP:=OM p.text hpo q3
       have hC:=FM p.text 0 (by omega) q3
       have hL:=Rc p.text hpo (decide ((i:Int)=0)) q3 H3.wf
       have hdc:decide ((i:Int)=0)=decide (i=0):=by simp only [decide_eq_decide]; omega
       rw [hdc] at hL
       rw [hdr,Dx] at hinv
       have hpn:(EJ l i).isNone=decide (i=0):=by
        unfold EJ
        by_cases h0:i=0
        · simp [h0]
        · rw [if_neg h0,List.getElem?_eq_getElem (by omega)]; simp [h0]
       rw [hpn] at hinv
       have hw1:=AR (show i+1 < 2^63 by omega)
       have hD:Hp s q3 s.en [] [(s.nb,.cells 102 [AV.bl id 3 0 l.length xx,.i .i64 0])]:=H3.dropB
       cases hb:FY (decide (i=0)) p with
       | false =>
         rw [hb,Bool.false_and] at hinv
         have hwf:FP l=false:=by unfold FP; rw [← hinv]; rfl
         rw [hwf]
         have hfin:KR s [.id] (.b false) (some ([.b false],q3)):=AL H3.over rfl rfl
         unfold FY at hb
         cases hv:p.var with
         | true =>
           rw [hv,if_pos rfl] at hb
           rw [hv] at k0
           rw [hb] at hP
           simp only [go_sem,AD,AA,AC,AB,KB_n,KB_x,Nat.reduceBEq,Nat.reduceAdd,Nat.reduceLT,Nat.reduceLeDiff,Nat.reduceEqDiff,reduceIte,Int.reduceEq,reduceCtorEq,g1,g8,g9,g10,h1,AG,hlt0,lp,Nat.zero_add,Dw,pc3,hq2,d3,k0,k1,hP]
           exact hfin
         | false =>
           rw [hv,if_neg (by simp)] at hb
           rw [hv] at k0
           cases hqq:p.quoted with
           | true =>
             rw [hqq,if_pos rfl] at hb
             rw [hqq] at k2
             have hc0:decide (0∈p.text)=true:=by simpa using hb
             rw [hc0] at hC
             simp only [go_sem,AD,AA,AC,AB,KB_n,KB_x,Nat.reduceBEq,Nat.reduceAdd,Nat.reduceLT,Nat.reduceLeDiff,Nat.reduceEqDiff,reduceIte,Int.reduceEq,reduceCtorEq,g1,g8,g9,g10,h1,AG,hlt0,lp,Nat.zero_add,Dw,pc3,hq2,d3,k0,k1,k2,hC]
             exact hfin
           | false =>
             rw [hqq,if_neg (by simp)] at hb
             rw [hqq] at k2
             rw [hb] at hL
             simp only [go_sem,AD,AA,AC,AB,KB_n,KB_x,Nat.reduceBEq,Nat.reduceAdd,Nat.reduceLT,Nat.reduceLeDiff,Nat.reduceEqDiff,reduceIte,Int.reduceEq,reduceCtorEq,g1,g8,g9,g10,h1,AG,hlt0,lp,Nat.zero_add,Dw,pc3,hq2,d3,k0,k1,k2,hdc,hL]
             exact hfin
       | true =>
         rw [hb,Bool.true_and] at hinv
         unfold FY at hb
         by_cases h0:i=0
         · have e0':((i:Int)=0)=True:=eq_true (by omega)
           have hpv0:EJ l i=none:=by simp [EJ,h0]
           rw [hpv0] at hinv
           simp only [Bool.true_and] at hinv
           cases hv:p.var with
           | true =>
             rw [hv,if_pos rfl] at hb
             rw [hv] at k0
             rw [hb] at hP
             simp only [go_sem,AD,AA,AC,AB,KB_n,KB_x,Nat.reduceBEq,Nat.reduceAdd,Nat.reduceLT,Nat.reduceLeDiff,Nat.reduceEqDiff,reduceIte,Int.reduceEq,reduceCtorEq,g1,g8,g9,g10,h1,AG,hlt0,lp,Nat.zero_add,Dw,pc3,hq2,d3,k0,k1,hP,e0',hw1]
             exact ⟨x - 1,by omega,i+1,by omega,hD,by rw [CW hp]; exact hinv,rfl⟩
           | false =>
             rw [hv,if_neg (by simp)] at hb
             rw [hv] at k0
             cases hqq:p.quoted with
             | true =>
               rw [hqq,if_pos rfl] at hb
               rw [hqq] at k2
               have hc0:decide (0∈p.text)=false:=by simpa using hb
               rw [hc0] at hC
               simp only [go_sem,AD,AA,AC,AB,KB_n,KB_x,Nat.reduceBEq,Nat.reduceAdd,Nat.reduceLT,Nat.reduceLeDiff,Nat.reduceEqDiff,reduceIte,Int.reduceEq,reduceCtorEq,g1,g8,g9,g10,h1,AG,hlt0,lp,Nat.zero_add,Dw,pc3,hq2,d3,k0,k1,k2,hC,e0',hw1]
               exact ⟨x - 1,by omega,i+1,by omega,hD,by rw [CW hp]; exact hinv,rfl⟩
             | false =>
               rw [hqq,if_neg (by simp)] at hb
               rw [hqq] at k2
               rw [hb] at hL
               rw [decide_eq_true h0] at hL
               simp only [go_sem,AD,AA,AC,AB,KB_n,KB_x,Nat.reduceBEq,Nat.reduceAdd,Nat.reduceLT,Nat.reduceLeDiff,Nat.reduceEqDiff,reduceIte,Int.reduceEq,reduceCtorEq,g1,g8,g9,g10,h1,AG,hlt0,lp,Nat.zero_add,Dw,pc3,hq2,d3,k0,k1,k2,e0',decide_true,hL,hw1]
               exact ⟨x - 1,by omega,i+1,by omega,hD,by rw [CW hp]; exact hinv,rfl⟩
         · have e0':((i:Int)=0)=False:=eq_false (by omega)
           obtain ⟨r,hr⟩:∃ r,l[i - 1]? = some r:=⟨_,List.getElem?_eq_getElem (by omega)⟩
           have hpv0:EJ l i=some r:=by simp [EJ,h0,hr]
           rw [hpv0] at hinv
           simp only at hinv
           have hltr:(i - 1 < l.length)=True:=eq_true (by omega)
           have lrr:ldA q3 true 3 (.p id ((i - 1)*3))=some (.agg r.cells):=QO (by rw [Kd H3.over hid]; exact hbx) hr
           have hws:IntKind.i64.wrap ((i:Int) - 1)=((i - 1:Nat):Int):=by
            rw [show (i:Int) - 1=((i - 1:Nat):Int) by omega]; exact GO (by omega)
           have l7':=H3.ld 1 (off:=0) (v:=AV.bl id 3 0 l.length xx) rfl rfl
           have H4:=H3.new (.cells 85 [.b false,.s [],.b false])
           obtain ⟨q4,hq4⟩:∃ q4,q3.new (.cells 85 [.b false,.s [],.b false])=q4:=⟨_,rfl⟩
           rw [hq4] at H4
           obtain ⟨q5,d5,H5,n5,_⟩:=H4.stw 0 (m:=3) (v:=.agg r.cells) rfl rfl ⟨pc3 r,po3 r⟩
           have m0:=H5.ld 0 (off:=0) (v:=.b r.var) rfl rfl
           have m1:=H5.ld 0 (off:=1) (v:=.s r.text) rfl rfl
           have m2:=H5.ld 0 (off:=2) (v:=.b r.quoted) rfl rfl
           have j0:=H5.ld 1 (off:=0) (v:=.b p.var) rfl rfl
           have j1:=H5.ld 1 (off:=1) (v:=.s p.text) rfl rfl
           have j2:=H5.ld 1 (off:=2) (v:=.b p.quoted) rfl rfl
           have hD5:Hp s q5 s.en [] [(s.nb,.cells 102 [AV.bl id 3 0 l.length xx,.i .i64 0])]:=H5.dropB.dropB
           have hF:FP l=false→KR s [.id] (.b (FP l)) (some ([.b false],q5)):=fun h=>AL H5.over rfl (by rw [h]; rfl)
           have hW:false=FO none l→FP l=false:=fun h=>by unfold FP; rw [← h]; rfl
           have hdc0:decide (i=0)=false:=decide_eq_false h0
           rw [hdc0] at hL hb
           cases hv:p.var with
           | true =>
             rw [hv,if_pos rfl] at hb
             rw [hv] at k0
             rw [hb] at hP
             simp only [go_sem,AD,AA,AC,AB,KB_n,KB_x,Nat.reduceBEq,Nat.reduceAdd,Nat.reduceLT,Nat.reduceLeDiff,Nat.reduceEqDiff,reduceIte,Int.reduceEq,reduceCtorEq,g1,g8,g9,g10,h1,AG,hlt0,lp,Nat.zero_add,hltr,lrr,Dw,pc3,hq2,d3,k0,k1,hP,e0',l7',hws,hq4,d5]
             refine JL (p:=p) (r:=r) (by simp only [go_sem,AD,AA,AC,AB,KB_n,KB_x,Nat.reduceBEq,Nat.reduceAdd,Nat.reduceLT,Nat.reduceLeDiff,Nat.reduceEqDiff,reduceIte,Int.reduceEq,reduceCtorEq]) (by simp only [go_sem,AD,AA,AC,AB,KB_n,KB_x,Nat.reduceBEq,Nat.reduceAdd,Nat.reduceLT,Nat.reduceLeDiff,Nat.reduceEqDiff,reduceIte,Int.reduceEq,reduceCtorEq]) j0 j1 j2 m0 m1 m2 fun e' hsm hbt=>?_
             have y1:=hsm 1 (by decide)
             have y8:=hsm 8 (by decide)
             have y9:=hsm 9 (by decide)
             have y10:=hsm 10 (by decide)
             simp only [go_sem,AD,AA,AC,AB,KB_n,KB_x,Nat.reduceBEq,Nat.reduceAdd,Nat.reduceLT,Nat.reduceLeDiff,Nat.reduceEqDiff,reduceIte,Int.reduceEq,reduceCtorEq,g1,g8,g9,g10] at y1 y8 y9 y10
             cases hb2:FN p r with
             | true =>
               rw [hb2] at hbt hinv
               simp only [go_sem,AD,AA,AC,AB,KB_n,KB_x,Nat.reduceBEq,Nat.reduceAdd,Nat.reduceLT,Nat.reduceLeDiff,Nat.reduceEqDiff,reduceIte,Int.reduceEq,reduceCtorEq,hbt]
               exact hF (hW hinv)
             | false =>
               rw [hb2] at hbt hinv
               simp only [go_sem,AD,AA,AC,AB,KB_n,KB_x,Nat.reduceBEq,Nat.reduceAdd,Nat.reduceLT,Nat.reduceLeDiff,Nat.reduceEqDiff,reduceIte,Int.reduceEq,reduceCtorEq,hbt,y1,y8,y9,y10,hw1]
               exact ⟨x - 1,by omega,i+1,by omega,hD5,by rw [CW hp]; exact hinv,rfl⟩
           | false =>
             rw [hv,if_neg (by simp)] at hb
             rw [hv] at k0
             cases hpq:p.quoted with
             | true =>
               rw [hpq,if_pos rfl] at hb
               rw [hpq] at k2
               have hc0:decide (0∈p.text)=false:=by simpa using hb
               rw [hc0] at hC
               simp only [go_sem,AD,AA,AC,AB,KB_n,KB_x,Nat.reduceBEq,Nat.reduceAdd,Nat.reduceLT,Nat.reduceLeDiff,Nat.reduceEqDiff,reduceIte,Int.reduceEq,reduceCtorEq,g1,g8,g9,g10,h1,AG,hlt0,lp,Nat.zero_add,hltr,lrr,Dw,pc3,hq2,d3,k0,k1,k2,hC,e0',l7',hws,hq4,d5]
               refine JL (p:=p) (r:=r) (by simp only [go_sem,AD,AA,AC,AB,KB_n,KB_x,Nat.reduceBEq,Nat.reduceAdd,Nat.reduceLT,Nat.reduceLeDiff,Nat.reduceEqDiff,reduceIte,Int.reduceEq,reduceCtorEq]) (by simp only [go_sem,AD,AA,AC,AB,KB_n,KB_x,Nat.reduceBEq,Nat.reduceAdd,Nat.reduceLT,Nat.reduceLeDiff,Nat.reduceEqDiff,reduceIte,Int.reduceEq,reduceCtorEq]) j0 j1 j2 m0 m1 m2 fun e' hsm hbt=>?_
               have y1:=hsm 1 (by decide)
               have y8:=hsm 8 (by decide)
               have y9:=hsm 9 (by decide)
               have y10:=hsm 10 (by decide)
               simp only [go_sem,AD,AA,AC,AB,KB_n,KB_x,Nat.reduceBEq,Nat.reduceAdd,Nat.reduceLT,Nat.reduceLeDiff,Nat.reduceEqDiff,reduceIte,Int.reduceEq,reduceCtorEq,g1,g8,g9,g10] at y1 y8 y9 y10
               cases hb2:FN p r with
               | true =>
                 rw [hb2] at hbt hinv
                 simp only [go_sem,AD,AA,AC,AB,KB_n,KB_x,Nat.reduceBEq,Nat.reduceAdd,Nat.reduceLT,Nat.reduceLeDiff,Nat.reduceEqDiff,reduceIte,Int.reduceEq,reduceCtorEq,hbt]
                 exact hF (hW hinv)
               | false =>
                 rw [hb2] at hbt hinv
                 simp only [go_sem,AD,AA,AC,AB,KB_n,KB_x,Nat.reduceBEq,Nat.reduceAdd,Nat.reduceLT,Nat.reduceLeDiff,Nat.reduceEqDiff,reduceIte,Int.reduceEq,reduceCtorEq,hbt,y1,y8,y9,y10,hw1]
                 exact ⟨x - 1,by omega,i+1,by omega,hD5,by rw [CW hp]; exact hinv,rfl⟩
             | false =>
               rw [hpq,if_neg (by simp)] at hb
               rw [hpq] at k2
               rw [hb] at hL
               simp only [go_sem,AD,AA,AC,AB,KB_n,KB_x,Nat.reduceBEq,Nat.reduceAdd,Nat.reduceLT,Nat.reduceLeDiff,Nat.reduceEqDiff,reduceIte,Int.reduceEq,reduceCtorEq,g1,g8,g9,g10,h1,AG,hlt0,lp,Nat.zero_add,hltr,lrr,Dw,pc3,hq2,d3,k0,k1,k2,e0',decide_false,hL,l7',hws,hq4,d5]
               refine JL (p:=p) (r:=r) (by simp only [go_sem,AD,AA,AC,AB,KB_n,KB_x,Nat.reduceBEq,Nat.reduceAdd,Nat.reduceLT,Nat.reduceLeDiff,Nat.reduceEqDiff,reduceIte,Int.reduceEq,reduceCtorEq]) (by simp only [go_sem,AD,AA,AC,AB,KB_n,KB_x,Nat.reduceBEq,Nat.reduceAdd,Nat.reduceLT,Nat.reduceLeDiff,Nat.reduceEqDiff,reduceIte,Int.reduceEq,reduceCtorEq]) j0 j1 j2 m0 m1 m2 fun e' hsm hbt=>?_
               have y1:=hsm 1 (by decide)
               have y8:=hsm 8 (by decide)
               have y9:=hsm 9 (by decide)
               have y10:=hsm 10 (by decide)
               simp only [go_sem,AD,AA,AC,AB,KB_n,KB_x,Nat.reduceBEq,Nat.reduceAdd,Nat.reduceLT,Nat.reduceLeDiff,Nat.reduceEqDiff,reduceIte,Int.reduceEq,reduceCtorEq,g1,g8,g9,g10] at y1 y8 y9 y10
               cases hb2:FN p r with
               | true =>
                 rw [hb2] at hbt hinv
                 simp only [go_sem,AD,AA,AC,AB,KB_n,KB_x,Nat.reduceBEq,Nat.reduceAdd,Nat.reduceLT,Nat.reduceLeDiff,Nat.reduceEqDiff,reduceIte,Int.reduceEq,reduceCtorEq,hbt]
                 exact hF (hW hinv)
               | false =>
                 rw [hb2] at hbt hinv
                 simp only [go_sem,AD,AA,AC,AB,KB_n,KB_x,Nat.reduceBEq,Nat.reduceAdd,Nat.reduceLT,Nat.reduceLeDiff,Nat.reduceEqDiff,reduceIte,Int.reduceEq,reduceCtorEq,hbt,y1,y8,y9,y10,hw1]
                 exact ⟨x - 1,by omega,i+1,by omega,hD5,by rw [CW hp]; exact hinv,rfl⟩
     · have h1:((i:Int) < (l.length:Int))=False:=eq_false (by omega)
       have l7:=H.ld 0 (off:=0) (v:=AV.bl id 3 0 l.length xx) rfl rfl
       rw [List.drop_of_length_le (by omega),LK] at hinv
       have hwf:FP l=decide ((0:Int) < (l.length:Int)):=by
        unfold FP; rw [← hinv,Bool.true_and]; simp only [decide_eq_decide]; omega
       rw [hwf]
       simp only [go_sem,AD,AA,AC,AB,KB_n,KB_x,Nat.reduceBEq,Nat.reduceAdd,Nat.reduceLT,Nat.reduceLeDiff,Nat.reduceEqDiff,reduceIte,Int.reduceEq,reduceCtorEq,g1,g8,g9,g10,h1,l7,List.length_map]
       exact AL H.over rfl rfl
   · simp only [go_sem,AD,AA,AC,AB,KB_n,KB_x,Nat.reduceBEq,Nat.reduceAdd,Nat.reduceLT,Nat.reduceLeDiff,Nat.reduceEqDiff,reduceIte,Int.reduceEq,reduceCtorEq]
     exact ⟨0,by omega,H1,rfl,rfl⟩

theorem PP (c:Nat) (l:List Nat) (s:St):(lim prog).call DW [.s l,.s [c]] s=some (.b (FA c l),s):=by
 refine fn_W Jf rfl rfl ?_
 have h:(lim prog).call Bw [.s l,.s [c]] s.enter=some (.b (FA c l),s.enter):=by
  refine fn_W Em rfl rfl ?_
  have hz0:wkZ AY.cin [.s l,.s [c]]=[.s l,.s [c]]:=by simp [AY,wkZ,wk]
  rw [hz0]
  cases l with
  | nil =>
    have e1:(((([c]:List Nat).length:Nat):Int)≤((([]:List Nat).length:Nat):Int))=False:=eq_false (by simp)
    simp only [AY,go_sem,AD,AA,AC,AB,KB_n,KB_x,Nat.reduceBEq,Nat.reduceAdd,Nat.reduceLT,Nat.reduceLeDiff,Nat.reduceEqDiff,reduceIte,Int.reduceEq,reduceCtorEq,e1]
    exact AL (Over.enter _) rfl rfl
  | cons a t =>
    have e1:(((([c]:List Nat).length:Nat):Int)≤(((a::t).length:Nat):Int))=True:=eq_true (by simp; omega)
    have hb:Ck (a::t).length none (some (.i .i64 (((([c]:List Nat).length:Nat):Int))))=some (0,1):=by
     simp only [Ck,AG,List.length_cons,List.length_nil,Nat.zero_add]
     rw [if_pos ⟨by omega,by omega⟩]
    have hd:(((a::t).drop 0).take (1 - 0))=[a]:=rfl
    have e2:decide (([a]:List Nat)=[c])=FA c (a::t):=by simp [FA]
    simp only [AY,go_sem,AD,AA,AC,AB,KB_n,KB_x,Nat.reduceBEq,Nat.reduceAdd,Nat.reduceLT,Nat.reduceLeDiff,Nat.reduceEqDiff,reduceIte,Int.reduceEq,reduceCtorEq,e1,hb,hd,e2]
    exact AL (Over.enter _) rfl rfl
 simp only [Ct,go_sem,AD,AA,AC,AB,KB_n,KB_x,Nat.reduceBEq,Nat.reduceAdd,Nat.reduceLT,Nat.reduceLeDiff,Nat.reduceEqDiff,reduceIte,Int.reduceEq,reduceCtorEq,h]
 exact AL (Over.enter s) rfl rfl
theorem le13:(1≤3)=True:=by simp
theorem PQ (x:PT) (L:List PT) (hL:(x::L).length < 2^36) (s:St) :
    (lim prog).call BG [ptx (x::L)] s=some (.sl 3 ((x::L).map PT.av) (.tok s.nt 0),{ s.newTok (x::L).length (some 85) with lo:=min s.lo s.nb }):=by
 have h1:wkZ Ag.cin [ptx (x::L)]=[ptx (x::L)]:=by
  simp only [Ag,wkZ,ptx,wk,PO]
 obtain ⟨r,s',hc,rfl,rfl⟩:=fn_K (t:=2) (s:=s) (args:=[ptx (x::L)]) (Post:=fun r s'=>r=.sl 3 ((x::L).map PT.av) (.tok s.nt 0)∧s'={ s.newTok (x::L).length (some 85) with lo:=min s.lo s.nb }) El rfl rfl rfl (by rw [h1]; rfl) (by
  rw [h1]
  have heq:eqS (ptx (x::L)) .nsl=some false:=rfl
  have ha:appA s.enter 3 85 (.sl 3 [] .full) (ptx (x::L))=some (.sl 3 ((x::L).map PT.av) (.tok s.nt 0),s.enter.newTok (x::L).length (some 85)):=by
   simp only [ptx,List.map_cons,appA,elems,if_true,List.nil_append,List.length_nil,Nat.zero_add,true_and]
   rw [if_pos (by simp only [List.length_cons,List.length_map] at hL ⊢; omega)]
   simp [St.enter]
  have hal:Ak 3 []=true:=rfl
  simp only [Ag,go_sem,Cr,Aq,Al,Ar,Cl,KB_n,KB_x,Nat.reduceBEq,Nat.reduceAdd,Nat.reduceLT,Nat.reduceLeDiff,Nat.reduceEqDiff,reduceIte,Int.reduceEq,reduceCtorEq,heq,hal,le13,ha,KK_n,KK_r]
  rfl)
 exact hc
theorem SW {s0 s:St} {n:En} {R:List RA} {B:List (Nat×Box)} (H:Hp s0 s n R B) (x:PT) (L:List PT) (hL:(x::L).length < 2^36) :
    ∃ r s',(lim prog).call BG [ptx (x::L)] s=some (r,s')∧Hp s0 s' n (⟨3,85,r,(x::L).map PT.av,true⟩::R) B∧s'.nb=s.nb∧A7 r≠none:=by
 have hlo:=H.lo
 have h1:=H.over.lo
 have h2:=H.over.nb
 refine ⟨_,_,PQ x L hL s,?_,rfl,by simp [A7]⟩
 have:=H.newTok 3 85 ((x::L).map PT.av)
 rw [List.length_map] at this
 exact this.setLo (m:=min s.lo s.nb) (by omega) (by omega)
def fixP:List PT→List PT
 | []=>[]
 | p::t=>(if !p.var&&(!p.quoted&&(FA 35 p.text||FA 126 p.text)) then { p with text:=95::p.text } else p)::t
def Gb (x:IT):Bool:=decide (x.parts.length=0)||FP (fixP x.parts)
theorem ON:∀ L:List PT,GD (L.map PT.av)=(L.map PT.cells).flatten
 | []=>rfl
 | p::L=>by
   rw [List.map_cons,GD,ON L,List.map_cons,List.flatten_cons]; rfl
theorem V5 (x:IT) (hx:x.Ok) (s:St) (hw:Wf s):(lim prog).call OD [.agg x.cells] s=some (.b (Gb x),s):=by
 refine fn_W Vx rfl rfl ?_
 have hz0:wkZ EF.cin [.agg x.cells]=[.agg x.cells]:=by simp [EF,wkZ,wk,IT.cells,ptx,PO]
 rw [hz0]
 have e0:s.enter.nb=s.nb:=rfl
 have H1:=(Hp.begin hw).new (.cells 78 x.cells)
 obtain ⟨q1,hq1⟩:∃ q1,s.enter.new (.cells 78 x.cells)=q1:=⟨_,rfl⟩
 rw [hq1,e0] at H1
 have l6:=H1.ld 0 (off:=0) (v:=.ws false 3 (x.parts.map PT.av)) rfl rfl
 unfold Gb
 cases hps:x.parts with
 | nil =>
   rw [hps] at l6
   have c0:(((([]:List PT).length:Nat):Int)=0)=True:=eq_true (by simp)
   simp only [EF,go_sem,AD,AA,AC,AB,KB_n,KB_x,Nat.reduceBEq,Nat.reduceAdd,Nat.reduceLT,Nat.reduceLeDiff,Nat.reduceEqDiff,reduceIte,Int.reduceEq,reduceCtorEq,ic2,hq1,e0,l6,List.length_map,c0]
   exact AL H1.over rfl rfl
 | cons p t =>
   rw [hps] at l6
   have hpl:(p::t).length < 2^34:=by rw [← hps]; exact hx.len
   have hpo:p.Ok:=hx.parts p (by rw [hps]; simp)
   have c0:((((p::t).length:Nat):Int)=0)=False:=eq_false (by simp; omega)
   obtain ⟨r,q2,dc,H2,n2,hrt⟩:=SW H1 p t (by omega)
   obtain ⟨q3,dt,H3,n3⟩:=H2.thaw 0 rfl hrt [] (by simp) (by simp)
   rw [List.length_map] at dt
   rw [ON] at H3
   have k0:=H3.ldr 0 (off:=0) (v:=.b p.var) rfl rfl
   have k1:=H3.ldr 0 (off:=1) (v:=.s p.text) rfl rfl
   have k2:=H3.ldr 0 (off:=2) (v:=.b p.quoted) rfl rfl
   simp only [ptx] at dc
   have n0:CX (.i .i64 0)=some 0:=rfl
   have c1:(0 < (p::t).length)=True:=eq_true (by simp)
   have cbl:∀ a b c d e,(AV.bl a b c d e).cells=[AV.bl a b c d e]:=fun _ _ _ _ _=>rfl
   have hov:∀ v:AV,over [.nsl,.i .i64 0] 0 [v]=some [v,.i .i64 0]:=fun _=>rfl
   have l11:∀ v:AV,([v].length=1)=True:=fun _=>eq_true rfl
   have w35:=PP 35 p.text q3
   have w126:=PP 126 p.text q3
   have hto:∀ z∈t,Txt z.text:=fun z hz=>(hx.parts z (by rw [hps]; simp [hz])).text
   have hS:SlP q3 (.bl q2.nb 3 0 (p::t).length ((p::t).length*3,false)) (p::t):=.inr ⟨_,_,_,_,_,rfl,by omega,(H3.box (i:=0) rfl).1⟩
   have hM:=NO (p::t) (fun z hz=>by rcases List.mem_cons.1 hz with rfl | hz; exact hpo.text; exact hto z hz) (by omega) q3 hS H3.wf
   have hb:∀ b,KR s [.id] (.b b) (some ([.b b],q3)):=fun b=>AL H3.over rfl rfl
   have hd0:decide ((p::t).length=0)=false:=by simp
   rw [hd0,Bool.false_or]
   let p':PT:={ p with text:=95::p.text }
   obtain ⟨q4,d4,H4,n4⟩:=H3.strw 0 (off:=1) (m:=1) (v:=.s (95::p.text)) rfl (by simp [PT.cells]) ⟨rfl,rfl⟩
   have hcs:((p::t).map PT.cells).flatten.take 1++((AV.s (95::p.text)).cells++((p::t).map PT.cells).flatten.drop (1+(AV.s (95::p.text)).cells.length))=((p'::t).map PT.cells).flatten:=rfl
   rw [hcs] at H4
   have hS4:SlP q4 (.bl q2.nb 3 0 (p::t).length ((p::t).length*3,false)) (p'::t):=.inr ⟨_,_,_,_,_,rfl,by omega,(H4.box (i:=0) rfl).1⟩
   have htx':Txt p'.text:=⟨fun z hz=>by
    rcases List.mem_cons.1 hz with rfl | hz
    · omega
    · exact hpo.text.lt z hz,by have:=hpo.len; show (95::p.text).length < 2^63; rw [List.length_cons]; omega⟩
   have hM4:=NO (p'::t) (fun z hz=>by rcases List.mem_cons.1 hz with rfl | hz; exact htx'; exact hto z hz) (by simp only [List.length_cons] at hpl ⊢; omega) q4 hS4 H4.wf
   have hb4:∀ b,KR s [.id] (.b b) (some ([.b b],q4)):=fun b=>AL H4.over rfl rfl
   have hadd:Am.binOp .add (.s [95]) (.s p.text)=some (.s (95::p.text)):=by
    show (if [95].length+p.text.length < 2^62 then some (AV.s ([95]++p.text)) else none)=_
    rw [if_pos (by have:=hpo.len; simp only [List.length_cons,List.length_nil]; omega)]; rfl
   have hsel:∀ {b:Bool},(!p.var&&(!p.quoted&&(FA 35 p.text||FA 126 p.text)))=b→fixP (p::t)=(if b then p' else p)::t:=fun h=>by
    subst h; rfl
   cases hv:p.var with
   | true =>
     rw [hsel (b:=false) (by rw [hv]; rfl)]
     rw [hv] at k0
     simp only [EF,go_sem,AD,AA,AC,AB,KB_n,KB_x,Nat.reduceBEq,Nat.reduceAdd,Nat.reduceLT,Nat.reduceLeDiff,Nat.reduceEqDiff,reduceIte,Int.reduceEq,reduceCtorEq,ic2,hq1,e0,l6,List.length_map,c0,dc,dt,n0,c1,Nat.zero_mul,Nat.zero_add,Nat.add_zero,k0,cbl,hov,l11,hM]
     exact hb _
   | false =>
     rw [hv] at k0
     cases hqq:p.quoted with
     | true =>
       rw [hsel (b:=false) (by rw [hv,hqq]; rfl)]
       rw [hqq] at k2
       simp only [EF,go_sem,AD,AA,AC,AB,KB_n,KB_x,Nat.reduceBEq,Nat.reduceAdd,Nat.reduceLT,Nat.reduceLeDiff,Nat.reduceEqDiff,reduceIte,Int.reduceEq,reduceCtorEq,ic2,hq1,e0,l6,List.length_map,c0,dc,dt,n0,c1,Nat.zero_mul,Nat.zero_add,Nat.add_zero,k0,k2,cbl,hov,l11,hM]
       exact hb _
     | false =>
       rw [hqq] at k2
       cases h35:FA 35 p.text with
       | true =>
         rw [h35] at w35
         rw [hsel (b:=true) (by rw [hv,hqq,h35]; rfl)]
         simp only [EF,go_sem,AD,AA,AC,AB,KB_n,KB_x,Nat.reduceBEq,Nat.reduceAdd,Nat.reduceLT,Nat.reduceLeDiff,Nat.reduceEqDiff,reduceIte,Int.reduceEq,reduceCtorEq,ic2,hq1,e0,l6,List.length_map,c0,dc,dt,n0,c1,Nat.zero_mul,Nat.zero_add,Nat.add_zero,k0,k1,k2,w35,hadd,d4,cbl,hov,l11,hM4]
         exact hb4 _
       | false =>
         rw [h35] at w35
         cases h126:FA 126 p.text with
         | true =>
           rw [h126] at w126
           rw [hsel (b:=true) (by rw [hv,hqq,h35,h126]; rfl)]
           simp only [EF,go_sem,AD,AA,AC,AB,KB_n,KB_x,Nat.reduceBEq,Nat.reduceAdd,Nat.reduceLT,Nat.reduceLeDiff,Nat.reduceEqDiff,reduceIte,Int.reduceEq,reduceCtorEq,ic2,hq1,e0,l6,List.length_map,c0,dc,dt,n0,c1,Nat.zero_mul,Nat.zero_add,Nat.add_zero,k0,k1,k2,w35,w126,hadd,d4,cbl,hov,l11,hM4]
           exact hb4 _
         | false =>
           rw [h126] at w126
           rw [hsel (b:=false) (by rw [hv,hqq,h35,h126]; rfl)]
           simp only [EF,go_sem,AD,AA,AC,AB,KB_n,KB_x,Nat.reduceBEq,Nat.reduceAdd,Nat.reduceLT,Nat.reduceLeDiff,Nat.reduceEqDiff,reduceIte,Int.reduceEq,reduceCtorEq,ic2,hq1,e0,l6,List.length_map,c0,dc,dt,n0,c1,Nat.zero_mul,Nat.zero_add,Nat.add_zero,k0,k1,k2,w35,w126,cbl,hov,l11,hM]
           exact hb _

def idxG {α:Type} (P:α→Bool) (L:List α):Int:=match L.findIdx? P with
 | some i=>(i:Int)
 | none => -1
theorem Rd {α:Type} (P:α→Bool) (L:List α):(0≤idxG P L)=(L.any P=true):=by
 unfold idxG
 cases h:L.findIdx? P with
 | none =>
   rw [List.findIdx?_eq_none_iff] at h
   simp only [eq_iff_iff,List.any_eq_true]
   constructor
   · intro hh; simp at hh
   · rintro ⟨x,hx,hp⟩; rw [h x hx] at hp; cases hp
 | some i =>
   rw [List.findIdx?_eq_some_iff_getElem] at h
   obtain ⟨h1,h2,_⟩:=h
   simp only [eq_iff_iff,List.any_eq_true]
   exact ⟨fun _=>⟨L[i],List.getElem_mem h1,h2⟩,fun _=>by omega⟩
theorem UK {α:Type} {P:α→Bool} {L:List α} {i:Nat} {z:α} (h:L[i]? = some z) (hz:P z=true) (hb:∀ j,j < i→∀ y,L[j]? = some y→P y=false):idxG P L=(i:Int):=by
 have:L.findIdx? P=some i:=by
  rw [List.findIdx?_eq_some_iff_getElem]
  obtain ⟨h1,h2⟩:=List.getElem?_eq_some_iff.1 h
  refine ⟨h1,by rw [h2]; exact hz,fun j hj=>?_⟩
  rw [hb j hj L[j] (List.getElem?_eq_getElem (by omega))]
  simp
 unfold idxG
 rw [this]
theorem UL {α:Type} {P:α→Bool} {L:List α} (hb:∀ j,j < L.length→∀ y,L[j]? = some y→P y=false):idxG P L = -1:=by
 have:L.findIdx? P=none:=by
  rw [List.findIdx?_eq_none_iff]
  intro x hx
  obtain ⟨j,hj,rfl⟩:=List.mem_iff_getElem.1 hx
  exact hb j hj _ (List.getElem?_eq_getElem hj)
 unfold idxG
 rw [this]
theorem QP (L:List IT) (hL:L.length < 2^62) (g:Nat) (caps:List AV) (P:IT→Bool) (s:St) (hw:Wf s) (hP:∀ z∈L,Ej (lim prog) (.fn g caps) [.agg z.cells] s.enter=some (.b (P z),s.enter)) :
    (lim prog).call Be [itx L,.fn g caps] s=some (.i .i64 (idxG P L),s):=by
 refine fn_W EB rfl rfl ?_
 have hz0:wkZ AX.cin [itx L,.fn g caps]=[itx L,.fn g caps]:=by simp [AX,wkZ,wk,itx,itx]
 rw [hz0]
 simp only [AX,go_sem,AD,AA,AC,AB,KB_n,KB_x,Nat.reduceBEq,Nat.reduceAdd,Nat.reduceLT,Nat.reduceLeDiff,Nat.reduceEqDiff,reduceIte,Int.reduceEq,reduceCtorEq,itx,List.length_map]
 refine BP (fun x e q=>∃ i:Nat,i+x=L.length∧q=s.enter∧(∀ j,j < i→∀ y,L[j]? = some y→P y=false)∧e.get 0=itx L∧e.get 1=.fn g caps∧e.get 7=.i .i64 (L.length:Nat)∧e.get 8=.i .i64 (i:Nat)) ?_ L.length _ _ ?_
 · rintro x e q ⟨i,hi,rfl,hb,g0,g1,g7,g8⟩
   by_cases h:i < L.length
   · have h1:((i:Int) < (L.length:Int))=True:=eq_true (by omega)
     obtain ⟨z,hz⟩:∃ z,L[i]? = some z:=⟨_,List.getElem?_eq_getElem h⟩
     have hz2:=It hz
     have hc:=hP z (List.mem_of_getElem? hz)
     have hw1:=AR (show i+1 < 2^63 by omega)
     cases hp:P z with
     | true =>
       rw [hp] at hc
       rw [UK hz hp hb]
       simp only [go_sem,AD,AA,AC,AB,KB_n,KB_x,Nat.reduceBEq,Nat.reduceAdd,Nat.reduceLT,Nat.reduceLeDiff,Nat.reduceEqDiff,reduceIte,Int.reduceEq,reduceCtorEq,g0,g1,g7,g8,itx,h1,AG,hz2,KI,ic2,ild,OL,hc]
       exact AL (Over.enter s) rfl rfl
     | false =>
       rw [hp] at hc
       simp only [go_sem,AD,AA,AC,AB,KB_n,KB_x,Nat.reduceBEq,Nat.reduceAdd,Nat.reduceLT,Nat.reduceLeDiff,Nat.reduceEqDiff,reduceIte,Int.reduceEq,reduceCtorEq,g0,g1,g7,g8,itx,h1,AG,hz2,KI,ic2,ild,OL,hc,hw1]
       refine ⟨x - 1,by omega,i+1,by omega,fun j hj y hy=>?_,rfl⟩
       rcases Nat.lt_or_ge j i with hlt | hge
       · exact hb j hlt y hy
       · obtain rfl:j=i:=by omega
         rw [hz] at hy; cases hy; exact hp
   · have h1:((i:Int) < (L.length:Int))=False:=eq_false (by omega)
     rw [UL fun j hj=>hb j (by omega)]
     simp only [go_sem,AD,AA,AC,AB,KB_n,KB_x,Nat.reduceBEq,Nat.reduceAdd,Nat.reduceLT,Nat.reduceLeDiff,Nat.reduceEqDiff,reduceIte,Int.reduceEq,reduceCtorEq,g0,g1,g7,g8,h1]
     exact AL (Over.enter s) rfl rfl
 · simp only [go_sem,AD,AA,AC,AB,KB_n,KB_x,Nat.reduceBEq,Nat.reduceAdd,Nat.reduceLT,Nat.reduceLeDiff,Nat.reduceEqDiff,reduceIte,Int.reduceEq,reduceCtorEq]
   exact ⟨0,by omega,fun j hj=>by omega,rfl,rfl⟩
theorem M4 (L:List IT) (hL:L.length < 2^62) (g:Nat) (caps:List AV) (P:IT→Bool) (s:St) (hw:Wf s) (hP:∀ z∈L,Ej (lim prog) (.fn g caps) [.agg z.cells] s.enter=some (.b (P z),s.enter)) :
    (lim prog).call BH [itx L,.fn g caps] s=some (.b (L.any P),s):=by
 refine fn_W Dv rfl rfl ?_
 have hz0:wkZ AP.cin [itx L,.fn g caps]=[itx L,.fn g caps]:=by simp [AP,wkZ,wk,itx,itx]
 have h1:=QP L hL g caps P s.enter hw.enter hP
 rw [hz0]
 unfold itx at h1
 simp only [AP,go_sem,AD,AA,AC,AB,KB_n,KB_x,Nat.reduceBEq,Nat.reduceAdd,Nat.reduceLT,Nat.reduceLeDiff,Nat.reduceEqDiff,reduceIte,Int.reduceEq,reduceCtorEq,h1,itx,Rd]
 exact AL (Over.enter s) rfl (by cases h:L.any P<;>rfl)
theorem QQ (L:List IN) (hL:L.length < 2^62) (g:Nat) (caps:List AV) (P:IN→Bool) (s:St) (hw:Wf s) (hP:∀ z∈L,Ej (lim prog) (.fn g caps) [.agg z.cells] s.enter=some (.b (P z),s.enter)) :
    (lim prog).call Bl [inx L,.fn g caps] s=some (.i .i64 (idxG P L),s):=by
 refine fn_W EU rfl rfl ?_
 have hz0:wkZ Ab.cin [inx L,.fn g caps]=[inx L,.fn g caps]:=by simp [Ab,wkZ,wk,inx,inx]
 rw [hz0]
 simp only [Ab,go_sem,AD,AA,AC,AB,KB_n,KB_x,Nat.reduceBEq,Nat.reduceAdd,Nat.reduceLT,Nat.reduceLeDiff,Nat.reduceEqDiff,reduceIte,Int.reduceEq,reduceCtorEq,inx,List.length_map]
 refine BP (fun x e q=>∃ i:Nat,i+x=L.length∧q=s.enter∧(∀ j,j < i→∀ y,L[j]? = some y→P y=false)∧e.get 0=inx L∧e.get 1=.fn g caps∧e.get 7=.i .i64 (L.length:Nat)∧e.get 8=.i .i64 (i:Nat)) ?_ L.length _ _ ?_
 · rintro x e q ⟨i,hi,rfl,hb,g0,g1,g7,g8⟩
   by_cases h:i < L.length
   · have h1:((i:Int) < (L.length:Int))=True:=eq_true (by omega)
     obtain ⟨z,hz⟩:∃ z,L[i]? = some z:=⟨_,List.getElem?_eq_getElem h⟩
     have hz2:=Iu hz
     have hc:=hP z (List.mem_of_getElem? hz)
     have hw1:=AR (show i+1 < 2^63 by omega)
     cases hp:P z with
     | true =>
       rw [hp] at hc
       rw [UK hz hp hb]
       simp only [go_sem,AD,AA,AC,AB,KB_n,KB_x,Nat.reduceBEq,Nat.reduceAdd,Nat.reduceLT,Nat.reduceLeDiff,Nat.reduceEqDiff,reduceIte,Int.reduceEq,reduceCtorEq,g0,g1,g7,g8,inx,h1,AG,hz2,KI,nc4,nld,DS,hc]
       exact AL (Over.enter s) rfl rfl
     | false =>
       rw [hp] at hc
       simp only [go_sem,AD,AA,AC,AB,KB_n,KB_x,Nat.reduceBEq,Nat.reduceAdd,Nat.reduceLT,Nat.reduceLeDiff,Nat.reduceEqDiff,reduceIte,Int.reduceEq,reduceCtorEq,g0,g1,g7,g8,inx,h1,AG,hz2,KI,nc4,nld,DS,hc,hw1]
       refine ⟨x - 1,by omega,i+1,by omega,fun j hj y hy=>?_,rfl⟩
       rcases Nat.lt_or_ge j i with hlt | hge
       · exact hb j hlt y hy
       · obtain rfl:j=i:=by omega
         rw [hz] at hy; cases hy; exact hp
   · have h1:((i:Int) < (L.length:Int))=False:=eq_false (by omega)
     rw [UL fun j hj=>hb j (by omega)]
     simp only [go_sem,AD,AA,AC,AB,KB_n,KB_x,Nat.reduceBEq,Nat.reduceAdd,Nat.reduceLT,Nat.reduceLeDiff,Nat.reduceEqDiff,reduceIte,Int.reduceEq,reduceCtorEq,g0,g1,g7,g8,h1]
     exact AL (Over.enter s) rfl rfl
 · simp only [go_sem,AD,AA,AC,AB,KB_n,KB_x,Nat.reduceBEq,Nat.reduceAdd,Nat.reduceLT,Nat.reduceLeDiff,Nat.reduceEqDiff,reduceIte,Int.reduceEq,reduceCtorEq]
   exact ⟨0,by omega,fun j hj=>by omega,rfl,rfl⟩
theorem M5 (L:List IN) (hL:L.length < 2^62) (g:Nat) (caps:List AV) (P:IN→Bool) (s:St) (hw:Wf s) (hP:∀ z∈L,Ej (lim prog) (.fn g caps) [.agg z.cells] s.enter=some (.b (P z),s.enter)) :
    (lim prog).call BV [inx L,.fn g caps] s=some (.b (L.any P),s):=by
 refine fn_W D8 rfl rfl ?_
 have hz0:wkZ AU.cin [inx L,.fn g caps]=[inx L,.fn g caps]:=by simp [AU,wkZ,wk,inx,inx]
 have h1:=QQ L hL g caps P s.enter hw.enter hP
 rw [hz0]
 unfold inx at h1
 simp only [AU,go_sem,AD,AA,AC,AB,KB_n,KB_x,Nat.reduceBEq,Nat.reduceAdd,Nat.reduceLT,Nat.reduceLeDiff,Nat.reduceEqDiff,reduceIte,Int.reduceEq,reduceCtorEq,h1,inx,Rd]
 exact AL (Over.enter s) rfl (by cases h:L.any P<;>rfl)
def FQ (l:List Nat):Bool:=D5 l&&(match l with | [c]=>!decide (c∈K11) | _=>true)
theorem QR (l:List Nat) (hl:Txt l) (s:St) (hw:Wf s):(lim prog).call HQ [.s l] s=some (.b (FQ l),s):=by
 refine fn_W OE rfl rfl ?_
 have hz0:wkZ Ci.cin [.s l]=[.s l]:=by simp [Ci,wkZ,wk]
 rw [hz0]
 have hb:∀ b,KR s [.id] (.b b) (some ([.b b],s.enter)):=fun b=>AL (Over.enter s) rfl rfl
 have hP:=OM l hl s.enter
 unfold FQ
 cases hp:D5 l with
 | false =>
   rw [hp] at hP
   simp only [Ci,go_sem,AD,AA,AC,AB,KB_n,KB_x,Nat.reduceBEq,Nat.reduceAdd,Nat.reduceLT,Nat.reduceLeDiff,Nat.reduceEqDiff,reduceIte,Int.reduceEq,reduceCtorEq,hP,Bool.false_and]
   exact hb _
 | true =>
   rw [hp] at hP
   match l,hp with
   | [],hp=>simp [D5] at hp
   | [c],_ =>
     have e1:((1:Int) < ((([c]:List Nat).length:Nat):Int))=False:=eq_false (by simp)
     have hC:=FM K11 c (hl.lt c (by simp)) s.enter
     simp only [Ci,go_sem,AD,AA,AC,AB,KB_n,KB_x,Nat.reduceBEq,Nat.reduceAdd,Nat.reduceLT,Nat.reduceLeDiff,Nat.reduceEqDiff,reduceIte,Int.reduceEq,reduceCtorEq,hP,e1,hC,Bool.true_and]
     exact hb _
   | a::b::t,_ =>
     have e1:((1:Int) < (((a::b::t).length:Nat):Int))=True:=eq_true (by simp only [List.length_cons]; omega)
     simp only [Ci,go_sem,AD,AA,AC,AB,KB_n,KB_x,Nat.reduceBEq,Nat.reduceAdd,Nat.reduceLT,Nat.reduceLeDiff,Nat.reduceEqDiff,reduceIte,Int.reduceEq,reduceCtorEq,hP,e1,Bool.true_and]
     exact hb _
def JB (n:Int):Box:=.cells 3 [.i .i64 n]
section
variable {s0 s:St} {en:En} {R:List RA} {B:List (Nat×Box)}
theorem GN (H:Hp s0 s en R B) (n:Int):∃ r s',(lim prog).call Bi [.i .i64 n] s=some (r,s')∧∃ j,r=.fn AE [.p j 0]∧Hp s0 s' en R ((j,JB n)::B):=by
 refine fn_G (Post:=fun r s'=>∃ j,r=.fn AE [.p j 0]∧Hp s0 s' en R ((j,JB n)::B)) PB rfl rfl ?_
 have H1:=H.enter.new (JB n)
 unfold JB at H1 ⊢
 generalize hq:s.enter.new (.cells 3 [.i .i64 n])=q at H1
 generalize hm:s.enter.nb=m at H1
 have hz0:wkZ Dt.cin [.i .i64 n]=[.i .i64 n]:=by simp [Dt,wkZ,wk]
 rw [hz0]
 simp only [Dt,go_sem,AD,AA,AC,AB,KB_n,KB_x,Nat.reduceBEq,Nat.reduceAdd,Nat.reduceLT,Nat.reduceLeDiff,Nat.reduceEqDiff,reduceIte,Int.reduceEq,reduceCtorEq,hq,hm]
 exact ⟨_,_,rfl,m,rfl,H.leaveR (n1:=s.en) H1 rfl⟩
theorem _root_.Go.Proofs.YtmnbfgfgjmmhfaaGreatDoor.Am.Hp.ins (H:Hp s0 s en R B) (i:Nat) {m:Nat} {es:List (AV×AV)} (h:B[i]? = some (m,.map es)) (es':List (AV×AV)) (v:AV):∃ s',Am.esc (s.setBox m (.map es')) m v=s'∧Hp s0 s' en R (B.set i (m,.map es'))∧s.box? m=some (.map es):=by
 have H1:=H.setBox h (.map es')
 have hb:(B.set i (m,Box.map es'))[i]? = some (m,.map es'):=by
  rw [List.getElem?_set,if_pos rfl,if_pos (by rw [List.getElem?_eq_some_iff] at h; exact h.1)]
 exact ⟨_,rfl,(H1.esc hb v).1,(H.box h).1⟩
end
def rlV (w:List Nat) (nm:Bool) (lo hi:Int) (f:AV):AV:=.agg [.s w,.b nm,.i .i64 lo,.i .i64 hi,f]
end Go.Proofs.YtmnbfgfgjmmhfaaGreatDoor

namespace Go.Proofs.YtmnbfgfgjmmhfaaGreatDoor
open Go.Proofs.YtmnbfgfgjmmhfaaGreatDoor.Am
attribute [local irreducible] W WO WE WQ WD Tr.get Tr.set
def ES (b1 b2 b3 b4 b5 b6 b7 b8:Nat):List (AV×AV):=[(.i .u8 1,rlV [115,107,105,112] false 0 0 (.fn AE [.p b1 0])),(.i .u8 4,rlV [99,104,101,99,107] false 0 0 (.fn AE [.p b2 0])),(.i .u8 6,rlV [110,111,116] false 0 0 (.fn AE [.p b3 0])),(.i .u8 2,rlV [97,115,115,105,103,110] true 1 1 (.fn AE [.p b4 0])),(.i .u8 3,rlV [99,97,108,108] false 1 64 (.fn AE [.p b5 0])),(.i .u8 5,rlV [115,101,113] false 0 0 (.fn Ax [])),(.i .u8 7,rlV [105,102] false 0 0 (.fn AE [.p b6 0])),(.i .u8 8,rlV [108,111,111,112] false 0 0 (.fn AE [.p b7 0])),(.i .u8 9,rlV [101,97,99,104] true 0 64 (.fn AE [.p b8 0]))]
def Ww (s0:St) (en:En) (R:List RA) (B:List (Nat×Box)) (r:AV) (s':St):Prop:=∃ m b1 b2 b3 b4 b5 b6 b7 b8,r=.m m∧Hp s0 s' en R ([(b8,JB 1),(b7,JB 2),(b6,JB 3),(b5,JB 0),(b4,JB 0),(b3,JB 0),(b2,JB 0),(b1,JB 0),(m,.map (ES b1 b2 b3 b4 b5 b6 b7 b8))]++B)
section
variable {s0 s:St} {en:En} {R:List RA} {B:List (Nat×Box)}
theorem Re (H:Hp s0 s en R B):∃ r s',(lim prog).call JH [] s=some (r,s')∧Ww s0 en R B r s':=by
 refine fn_G (Post:=Ww s0 en R B) SO rfl rfl ?_
 have cv:∀ f c l s,Ej (lim prog) (.fn f c) l s=(lim prog).call f (l++c) s:=fun f c l s=>rfl
 have H1:=H.enter.new (.map [])
 obtain ⟨q,hq⟩:∃ q,s.enter.new (.map [])=q:=⟨_,rfl⟩
 obtain ⟨m,hm⟩:∃ m,s.enter.nb=m:=⟨_,rfl⟩
 rw [hq,hm] at H1
 obtain ⟨_,q1a,da1,b1,rfl,Ha1⟩:=GN H1 0
 have da1:(lim prog).call Bi ([.i .i64 0]++[]) q=_:=da1
 obtain ⟨q1,e1,H2,x1⟩:=Ha1.ins 1 rfl [(.i .u8 1,rlV [115,107,105,112] false 0 0 (.fn AE [.p b1 0]))] (rlV [115,107,105,112] false 0 0 (.fn AE [.p b1 0]))
 have u1:updM 0 (.i .u8 1) (rlV [115,107,105,112] false 0 0 (.fn AE [.p b1 0])) []=some [(.i .u8 1,rlV [115,107,105,112] false 0 0 (.fn AE [.p b1 0]))]:=rfl
 obtain ⟨_,q2a,da2,b2,rfl,Ha2⟩:=GN H2 0
 have da2:(lim prog).call Bi ([.i .i64 0]++[]) q1=_:=da2
 obtain ⟨q2,e2,H3,x2⟩:=Ha2.ins 2 rfl [(.i .u8 1,rlV [115,107,105,112] false 0 0 (.fn AE [.p b1 0])),(.i .u8 4,rlV [99,104,101,99,107] false 0 0 (.fn AE [.p b2 0]))] (rlV [99,104,101,99,107] false 0 0 (.fn AE [.p b2 0]))
 have u2:updM 0 (.i .u8 4) (rlV [99,104,101,99,107] false 0 0 (.fn AE [.p b2 0])) [(.i .u8 1,rlV [115,107,105,112] false 0 0 (.fn AE [.p b1 0]))]=some [(.i .u8 1,rlV [115,107,105,112] false 0 0 (.fn AE [.p b1 0])),(.i .u8 4,rlV [99,104,101,99,107] false 0 0 (.fn AE [.p b2 0]))]:=rfl
 obtain ⟨_,q3a,da3,b3,rfl,Ha3⟩:=GN H3 0
 have da3:(lim prog).call Bi ([.i .i64 0]++[]) q2=_:=da3
 obtain ⟨q3,e3,H4,x3⟩:=Ha3.ins 3 rfl [(.i .u8 1,rlV [115,107,105,112] false 0 0 (.fn AE [.p b1 0])),(.i .u8 4,rlV [99,104,101,99,107] false 0 0 (.fn AE [.p b2 0])),(.i .u8 6,rlV [110,111,116] false 0 0 (.fn AE [.p b3 0]))] (rlV [110,111,116] false 0 0 (.fn AE [.p b3 0]))
 have u3:updM 0 (.i .u8 6) (rlV [110,111,116] false 0 0 (.fn AE [.p b3 0])) [(.i .u8 1,rlV [115,107,105,112] false 0 0 (.fn AE [.p b1 0])),(.i .u8 4,rlV [99,104,101,99,107] false 0 0 (.fn AE [.p b2 0]))]=some [(.i .u8 1,rlV [115,107,105,112] false 0 0 (.fn AE [.p b1 0])),(.i .u8 4,rlV [99,104,101,99,107] false 0 0 (.fn AE [.p b2 0])),(.i .u8 6,rlV [110,111,116] false 0 0 (.fn AE [.p b3 0]))]:=rfl
 obtain ⟨_,q4a,da4,b4,rfl,Ha4⟩:=GN H4 0
 have da4:(lim prog).call Bi ([.i .i64 0]++[]) q3=_:=da4
 obtain ⟨q4,e4,H5,x4⟩:=Ha4.ins 4 rfl [(.i .u8 1,rlV [115,107,105,112] false 0 0 (.fn AE [.p b1 0])),(.i .u8 4,rlV [99,104,101,99,107] false 0 0 (.fn AE [.p b2 0])),(.i .u8 6,rlV [110,111,116] false 0 0 (.fn AE [.p b3 0])),(.i .u8 2,rlV [97,115,115,105,103,110] true 1 1 (.fn AE [.p b4 0]))] (rlV [97,115,115,105,103,110] true 1 1 (.fn AE [.p b4 0]))
 have u4:updM 0 (.i .u8 2) (rlV [97,115,115,105,103,110] true 1 1 (.fn AE [.p b4 0])) [(.i .u8 1,rlV [115,107,105,112] false 0 0 (.fn AE [.p b1 0])),(.i .u8 4,rlV [99,104,101,99,107] false 0 0 (.fn AE [.p b2 0])),(.i .u8 6,rlV [110,111,116] false 0 0 (.fn AE [.p b3 0]))]=some [(.i .u8 1,rlV [115,107,105,112] false 0 0 (.fn AE [.p b1 0])),(.i .u8 4,rlV [99,104,101,99,107] false 0 0 (.fn AE [.p b2 0])),(.i .u8 6,rlV [110,111,116] false 0 0 (.fn AE [.p b3 0])),(.i .u8 2,rlV [97,115,115,105,103,110] true 1 1 (.fn AE [.p b4 0]))]:=rfl
 obtain ⟨_,q5a,da5,b5,rfl,Ha5⟩:=GN H5 0
 have da5:(lim prog).call Bi ([.i .i64 0]++[]) q4=_:=da5
 obtain ⟨q5,e5,H6,x5⟩:=Ha5.ins 5 rfl [(.i .u8 1,rlV [115,107,105,112] false 0 0 (.fn AE [.p b1 0])),(.i .u8 4,rlV [99,104,101,99,107] false 0 0 (.fn AE [.p b2 0])),(.i .u8 6,rlV [110,111,116] false 0 0 (.fn AE [.p b3 0])),(.i .u8 2,rlV [97,115,115,105,103,110] true 1 1 (.fn AE [.p b4 0])),(.i .u8 3,rlV [99,97,108,108] false 1 64 (.fn AE [.p b5 0]))] (rlV [99,97,108,108] false 1 64 (.fn AE [.p b5 0]))
 have u5:updM 0 (.i .u8 3) (rlV [99,97,108,108] false 1 64 (.fn AE [.p b5 0])) [(.i .u8 1,rlV [115,107,105,112] false 0 0 (.fn AE [.p b1 0])),(.i .u8 4,rlV [99,104,101,99,107] false 0 0 (.fn AE [.p b2 0])),(.i .u8 6,rlV [110,111,116] false 0 0 (.fn AE [.p b3 0])),(.i .u8 2,rlV [97,115,115,105,103,110] true 1 1 (.fn AE [.p b4 0]))]=some [(.i .u8 1,rlV [115,107,105,112] false 0 0 (.fn AE [.p b1 0])),(.i .u8 4,rlV [99,104,101,99,107] false 0 0 (.fn AE [.p b2 0])),(.i .u8 6,rlV [110,111,116] false 0 0 (.fn AE [.p b3 0])),(.i .u8 2,rlV [97,115,115,105,103,110] true 1 1 (.fn AE [.p b4 0])),(.i .u8 3,rlV [99,97,108,108] false 1 64 (.fn AE [.p b5 0]))]:=rfl
 obtain ⟨q6,e6,H7,x6⟩:=H6.ins 5 rfl [(.i .u8 1,rlV [115,107,105,112] false 0 0 (.fn AE [.p b1 0])),(.i .u8 4,rlV [99,104,101,99,107] false 0 0 (.fn AE [.p b2 0])),(.i .u8 6,rlV [110,111,116] false 0 0 (.fn AE [.p b3 0])),(.i .u8 2,rlV [97,115,115,105,103,110] true 1 1 (.fn AE [.p b4 0])),(.i .u8 3,rlV [99,97,108,108] false 1 64 (.fn AE [.p b5 0])),(.i .u8 5,rlV [115,101,113] false 0 0 (.fn Ax []))] (rlV [115,101,113] false 0 0 (.fn Ax []))
 have u6:updM 0 (.i .u8 5) (rlV [115,101,113] false 0 0 (.fn Ax [])) [(.i .u8 1,rlV [115,107,105,112] false 0 0 (.fn AE [.p b1 0])),(.i .u8 4,rlV [99,104,101,99,107] false 0 0 (.fn AE [.p b2 0])),(.i .u8 6,rlV [110,111,116] false 0 0 (.fn AE [.p b3 0])),(.i .u8 2,rlV [97,115,115,105,103,110] true 1 1 (.fn AE [.p b4 0])),(.i .u8 3,rlV [99,97,108,108] false 1 64 (.fn AE [.p b5 0]))]=some [(.i .u8 1,rlV [115,107,105,112] false 0 0 (.fn AE [.p b1 0])),(.i .u8 4,rlV [99,104,101,99,107] false 0 0 (.fn AE [.p b2 0])),(.i .u8 6,rlV [110,111,116] false 0 0 (.fn AE [.p b3 0])),(.i .u8 2,rlV [97,115,115,105,103,110] true 1 1 (.fn AE [.p b4 0])),(.i .u8 3,rlV [99,97,108,108] false 1 64 (.fn AE [.p b5 0])),(.i .u8 5,rlV [115,101,113] false 0 0 (.fn Ax []))]:=rfl
 obtain ⟨_,q7a,da7,b6,rfl,Ha7⟩:=GN H7 3
 have da7:(lim prog).call Bi ([.i .i64 3]++[]) q6=_:=da7
 obtain ⟨q7,e7,H8,x7⟩:=Ha7.ins 6 rfl [(.i .u8 1,rlV [115,107,105,112] false 0 0 (.fn AE [.p b1 0])),(.i .u8 4,rlV [99,104,101,99,107] false 0 0 (.fn AE [.p b2 0])),(.i .u8 6,rlV [110,111,116] false 0 0 (.fn AE [.p b3 0])),(.i .u8 2,rlV [97,115,115,105,103,110] true 1 1 (.fn AE [.p b4 0])),(.i .u8 3,rlV [99,97,108,108] false 1 64 (.fn AE [.p b5 0])),(.i .u8 5,rlV [115,101,113] false 0 0 (.fn Ax [])),(.i .u8 7,rlV [105,102] false 0 0 (.fn AE [.p b6 0]))] (rlV [105,102] false 0 0 (.fn AE [.p b6 0]))
 have u7:updM 0 (.i .u8 7) (rlV [105,102] false 0 0 (.fn AE [.p b6 0])) [(.i .u8 1,rlV [115,107,105,112] false 0 0 (.fn AE [.p b1 0])),(.i .u8 4,rlV [99,104,101,99,107] false 0 0 (.fn AE [.p b2 0])),(.i .u8 6,rlV [110,111,116] false 0 0 (.fn AE [.p b3 0])),(.i .u8 2,rlV [97,115,115,105,103,110] true 1 1 (.fn AE [.p b4 0])),(.i .u8 3,rlV [99,97,108,108] false 1 64 (.fn AE [.p b5 0])),(.i .u8 5,rlV [115,101,113] false 0 0 (.fn Ax []))]=some [(.i .u8 1,rlV [115,107,105,112] false 0 0 (.fn AE [.p b1 0])),(.i .u8 4,rlV [99,104,101,99,107] false 0 0 (.fn AE [.p b2 0])),(.i .u8 6,rlV [110,111,116] false 0 0 (.fn AE [.p b3 0])),(.i .u8 2,rlV [97,115,115,105,103,110] true 1 1 (.fn AE [.p b4 0])),(.i .u8 3,rlV [99,97,108,108] false 1 64 (.fn AE [.p b5 0])),(.i .u8 5,rlV [115,101,113] false 0 0 (.fn Ax [])),(.i .u8 7,rlV [105,102] false 0 0 (.fn AE [.p b6 0]))]:=rfl
 obtain ⟨_,q8a,da8,b7,rfl,Ha8⟩:=GN H8 2
 have da8:(lim prog).call Bi ([.i .i64 2]++[]) q7=_:=da8
 obtain ⟨q8,e8,H9,x8⟩:=Ha8.ins 7 rfl [(.i .u8 1,rlV [115,107,105,112] false 0 0 (.fn AE [.p b1 0])),(.i .u8 4,rlV [99,104,101,99,107] false 0 0 (.fn AE [.p b2 0])),(.i .u8 6,rlV [110,111,116] false 0 0 (.fn AE [.p b3 0])),(.i .u8 2,rlV [97,115,115,105,103,110] true 1 1 (.fn AE [.p b4 0])),(.i .u8 3,rlV [99,97,108,108] false 1 64 (.fn AE [.p b5 0])),(.i .u8 5,rlV [115,101,113] false 0 0 (.fn Ax [])),(.i .u8 7,rlV [105,102] false 0 0 (.fn AE [.p b6 0])),(.i .u8 8,rlV [108,111,111,112] false 0 0 (.fn AE [.p b7 0]))] (rlV [108,111,111,112] false 0 0 (.fn AE [.p b7 0]))
 have u8:updM 0 (.i .u8 8) (rlV [108,111,111,112] false 0 0 (.fn AE [.p b7 0])) [(.i .u8 1,rlV [115,107,105,112] false 0 0 (.fn AE [.p b1 0])),(.i .u8 4,rlV [99,104,101,99,107] false 0 0 (.fn AE [.p b2 0])),(.i .u8 6,rlV [110,111,116] false 0 0 (.fn AE [.p b3 0])),(.i .u8 2,rlV [97,115,115,105,103,110] true 1 1 (.fn AE [.p b4 0])),(.i .u8 3,rlV [99,97,108,108] false 1 64 (.fn AE [.p b5 0])),(.i .u8 5,rlV [115,101,113] false 0 0 (.fn Ax [])),(.i .u8 7,rlV [105,102] false 0 0 (.fn AE [.p b6 0]))]=some [(.i .u8 1,rlV [115,107,105,112] false 0 0 (.fn AE [.p b1 0])),(.i .u8 4,rlV [99,104,101,99,107] false 0 0 (.fn AE [.p b2 0])),(.i .u8 6,rlV [110,111,116] false 0 0 (.fn AE [.p b3 0])),(.i .u8 2,rlV [97,115,115,105,103,110] true 1 1 (.fn AE [.p b4 0])),(.i .u8 3,rlV [99,97,108,108] false 1 64 (.fn AE [.p b5 0])),(.i .u8 5,rlV [115,101,113] false 0 0 (.fn Ax [])),(.i .u8 7,rlV [105,102] false 0 0 (.fn AE [.p b6 0])),(.i .u8 8,rlV [108,111,111,112] false 0 0 (.fn AE [.p b7 0]))]:=rfl
 obtain ⟨_,q9a,da9,b8,rfl,Ha9⟩:=GN H9 1
 have da9:(lim prog).call Bi ([.i .i64 1]++[]) q8=_:=da9
 obtain ⟨q9,e9,H10,x9⟩:=Ha9.ins 8 rfl [(.i .u8 1,rlV [115,107,105,112] false 0 0 (.fn AE [.p b1 0])),(.i .u8 4,rlV [99,104,101,99,107] false 0 0 (.fn AE [.p b2 0])),(.i .u8 6,rlV [110,111,116] false 0 0 (.fn AE [.p b3 0])),(.i .u8 2,rlV [97,115,115,105,103,110] true 1 1 (.fn AE [.p b4 0])),(.i .u8 3,rlV [99,97,108,108] false 1 64 (.fn AE [.p b5 0])),(.i .u8 5,rlV [115,101,113] false 0 0 (.fn Ax [])),(.i .u8 7,rlV [105,102] false 0 0 (.fn AE [.p b6 0])),(.i .u8 8,rlV [108,111,111,112] false 0 0 (.fn AE [.p b7 0])),(.i .u8 9,rlV [101,97,99,104] true 0 64 (.fn AE [.p b8 0]))] (rlV [101,97,99,104] true 0 64 (.fn AE [.p b8 0]))
 have u9:updM 0 (.i .u8 9) (rlV [101,97,99,104] true 0 64 (.fn AE [.p b8 0])) [(.i .u8 1,rlV [115,107,105,112] false 0 0 (.fn AE [.p b1 0])),(.i .u8 4,rlV [99,104,101,99,107] false 0 0 (.fn AE [.p b2 0])),(.i .u8 6,rlV [110,111,116] false 0 0 (.fn AE [.p b3 0])),(.i .u8 2,rlV [97,115,115,105,103,110] true 1 1 (.fn AE [.p b4 0])),(.i .u8 3,rlV [99,97,108,108] false 1 64 (.fn AE [.p b5 0])),(.i .u8 5,rlV [115,101,113] false 0 0 (.fn Ax [])),(.i .u8 7,rlV [105,102] false 0 0 (.fn AE [.p b6 0])),(.i .u8 8,rlV [108,111,111,112] false 0 0 (.fn AE [.p b7 0]))]=some [(.i .u8 1,rlV [115,107,105,112] false 0 0 (.fn AE [.p b1 0])),(.i .u8 4,rlV [99,104,101,99,107] false 0 0 (.fn AE [.p b2 0])),(.i .u8 6,rlV [110,111,116] false 0 0 (.fn AE [.p b3 0])),(.i .u8 2,rlV [97,115,115,105,103,110] true 1 1 (.fn AE [.p b4 0])),(.i .u8 3,rlV [99,97,108,108] false 1 64 (.fn AE [.p b5 0])),(.i .u8 5,rlV [115,101,113] false 0 0 (.fn Ax [])),(.i .u8 7,rlV [105,102] false 0 0 (.fn AE [.p b6 0])),(.i .u8 8,rlV [108,111,111,112] false 0 0 (.fn AE [.p b7 0])),(.i .u8 9,rlV [101,97,99,104] true 0 64 (.fn AE [.p b8 0]))]:=rfl
 have hbl:∀ (w:List Nat) (nm:Bool) (lo hi:Int) (f:AV),AV.agg [.s w,.b nm,.i .i64 lo,.i .i64 hi,f]=rlV w nm lo hi f:=fun _ _ _ _ _=>rfl
 have hpv:∀ (w:List Nat) (nm:Bool) (lo hi:Int) (g:Nat) (c:List AV) (u:St),Am.pub u (rlV w nm lo hi (.fn g c))=some (rlV w nm lo hi (.fn g c),u):=fun _ _ _ _ _ _ _=>rfl
 have m1:∀ a b:AV,(lim prog).call Bi [a]=(lim prog).call Bi ([a]++[]):=fun _ _=>rfl
 simp only [Gu,go_sem,AD,AA,AC,AB,KB_n,KB_x,Nat.reduceBEq,Nat.reduceAdd,Nat.reduceLT,Nat.reduceLeDiff,Nat.reduceEqDiff,reduceIte,Int.reduceEq,reduceCtorEq,hq,hm,cv,hbl,hpv,da1,x1,u1,e1,da2,x2,u2,e2,da3,x3,u3,e3,da4,x4,u4,e4,da5,x5,u5,e5,x6,u6,e6,da7,x7,u7,e7,da8,x8,u8,e8,da9,x9,u9,e9]
 exact ⟨_,_,rfl,m,b1,b2,b3,b4,b5,b6,b7,b8,rfl,H.leaveR (n1:=s.en) H10 rfl⟩
end
end Go.Proofs.YtmnbfgfgjmmhfaaGreatDoor

namespace Go.Proofs.YtmnbfgfgjmmhfaaGreatDoor
open Go.Proofs.YtmnbfgfgjmmhfaaGreatDoor.Am
attribute [local irreducible] W WO WE WQ WD Tr.get Tr.set
structure Rule where
 word:List Nat
 named:Bool
 least:Nat
 most:Nat
 kids:Nat→Bool
def ruleK:Nat→Option Rule
 | 1=>some ⟨[115,107,105,112],false,0,0,fun n=>decide (n=0)⟩
 | 2=>some ⟨[97,115,115,105,103,110],true,1,1,fun n=>decide (n=0)⟩
 | 3=>some ⟨[99,97,108,108],false,1,64,fun n=>decide (n=0)⟩
 | 4=>some ⟨[99,104,101,99,107],false,0,0,fun n=>decide (n=0)⟩
 | 5=>some ⟨[115,101,113],false,0,0,fun _=>true⟩
 | 6=>some ⟨[110,111,116],false,0,0,fun n=>decide (n=0)⟩
 | 7=>some ⟨[105,102],false,0,0,fun n=>decide (n=3)⟩
 | 8=>some ⟨[108,111,111,112],false,0,0,fun n=>decide (n=2)⟩
 | 9=>some ⟨[101,97,99,104],true,0,64,fun n=>decide (n=1)⟩
 | _=>none
def F6:List IT→Bool
 | []=>false
 | x::_=>x.split
mutual
def mayI:IN→Bool
 | .mk k n is ks=>match ruleK k with
   | none=>false
   | some r=>r.kids ks.length&&(decide (r.least≤is.length)&&(decide (is.length≤r.most)&&((r.named==decide (n≠[]))&&((!r.named||FQ n)&&(!(decide (k=2)&&F6 is)&&(is.all Gb&&UM ks))))))
def UM:List IN→Bool
 | []=>true
 | k::ks=>mayI k&&UM ks
end
theorem PS:∀ l:List IN,UM l=l.all mayI
 | []=>by simp [UM]
 | k::l=>by simp only [UM,PS l,List.all_cons]
theorem QS (n:IN):mayI n=match ruleK n.kind with
    | none=>false
    | some r=>r.kids n.kids.length&&(decide (r.least≤n.items.length)&&(decide (n.items.length≤r.most)&&((r.named==decide (n.name≠[]))&&((!r.named||FQ n.name)&&(!(decide (n.kind=2)&&F6 n.items)&&(n.items.all Gb&&n.kids.all mayI)))))):=by
 cases n with
 | mk k nm is ks =>
   simp only [mayI,PS,IN.kind,IN.name,IN.items,IN.kids]
   cases ruleK k<;>rfl
theorem YY {b n:Nat} {u:St} (hw:Wf u) {m:Nat} (hb:u.box? b=some (JB (m:Nat))) (lb:b < u.nb):Ej (lim prog) (.fn AE [.p b 0]) [.i .i64 (n:Nat)] u=some (.b (decide (n=m)),u):=by
 show (lim prog).call AE [.i .i64 (n:Nat),.p b 0] u=_
 refine fn_W M2 rfl rfl ?_
 have hz0:wkZ DD.cin [.i .i64 (n:Nat),.p b 0]=[.i .i64 (n:Nat),.p b 0]:=by simp only [DD,wkZ,wk]
 rw [hz0]
 have l0:=YV (Over.enter u) (off:=0) (v:=.i .i64 (m:Nat)) lb hb rfl
 have e:decide ((n:Int)=(m:Int))=decide (n=m):=by simp only [decide_eq_decide]; omega
 simp only [DD,go_sem,AD,AA,AC,AB,KB_n,KB_x,Nat.reduceBEq,Nat.reduceAdd,Nat.reduceLT,Nat.reduceLeDiff,Nat.reduceEqDiff,reduceIte,Int.reduceEq,reduceCtorEq,Nat.zero_add,l0,e]
 exact AL (Over.enter u) rfl rfl
theorem any_ok {n:Nat} {u:St} (hw:Wf u):Ej (lim prog) (.fn Ax []) [.i .i64 (n:Nat)] u=some (.b true,u):=by
 show (lim prog).call Ax ([.i .i64 (n:Nat)]++[]) u=_
 refine fn_W PC rfl rfl ?_
 simp only [FJ,go_sem,AD,AA,AC,AB,KB_n,KB_x,Nat.reduceBEq,Nat.reduceAdd,Nat.reduceLT,Nat.reduceLeDiff,Nat.reduceEqDiff,reduceIte,Int.reduceEq,reduceCtorEq]
 exact AL (Over.enter u) rfl rfl
theorem UN {k b1 b2 b3 b4 b5 b6 b7 b8:Nat} (h:ruleK k=none):Mr 0 (.i .u8 (k:Nat)) (ES b1 b2 b3 b4 b5 b6 b7 b8)=some none:=by
 have h1:k=0∨10≤k:=by
  rcases Nat.lt_or_ge k 10 with hk | hk
  · left
    match k,hk,h with
    | 0,_,_=>rfl
    | 1,_,h | 2,_,h | 3,_,h | 4,_,h | 5,_,h | 6,_,h | 7,_,h | 8,_,h | 9,_,h=>simp [ruleK] at h
  · exact .inr hk
 have e:∀ c:Int,1≤c→c≤9→Lg 0 (.i .u8 (k:Nat)) (.i .u8 c)=some false:=fun c h2 h3=>by
  unfold Lg
  simp
  omega
 unfold ES
 simp only [Mr,e 1 (by omega) (by omega),e 2 (by omega) (by omega),e 3 (by omega) (by omega),e 4 (by omega) (by omega),e 5 (by omega) (by omega),e 6 (by omega) (by omega),e 7 (by omega) (by omega),e 8 (by omega) (by omega),e 9 (by omega) (by omega)]
def BLs (b1 b2 b3 b4 b5 b6 b7 b8:Nat):List (Nat×Box):=[(b8,JB 1),(b7,JB 2),(b6,JB 3),(b5,JB 0),(b4,JB 0),(b3,JB 0),(b2,JB 0),(b1,JB 0)]
def KidF (BL:List (Nat×Box)) (f:AV) (P:Nat→Bool):Prop:=(f=.fn Ax []∧P=fun _=>true)∨∃ i b,∃ j:Nat,BL[i]? = some (b,JB (j:Nat))∧i < 8∧f=.fn AE [.p b 0]∧P=fun n=>decide (n=j)
theorem PU {k b1 b2 b3 b4 b5 b6 b7 b8:Nat} {r:Rule} (h:ruleK k=some r):∃ f,Mr 0 (.i .u8 (k:Nat)) (ES b1 b2 b3 b4 b5 b6 b7 b8)=some (some (rlV r.word r.named r.least r.most f))∧KidF (BLs b1 b2 b3 b4 b5 b6 b7 b8) f r.kids:=by
 unfold ruleK at h
 split at h
 · cases h; exact ⟨_,rfl,.inr ⟨7,b1,0,rfl,by omega,rfl,rfl⟩⟩
 · cases h; exact ⟨_,rfl,.inr ⟨4,b4,0,rfl,by omega,rfl,rfl⟩⟩
 · cases h; exact ⟨_,rfl,.inr ⟨3,b5,0,rfl,by omega,rfl,rfl⟩⟩
 · cases h; exact ⟨_,rfl,.inr ⟨6,b2,0,rfl,by omega,rfl,rfl⟩⟩
 · cases h; exact ⟨_,rfl,.inl ⟨rfl,rfl⟩⟩
 · cases h; exact ⟨_,rfl,.inr ⟨5,b3,0,rfl,by omega,rfl,rfl⟩⟩
 · cases h; exact ⟨_,rfl,.inr ⟨2,b6,3,rfl,by omega,rfl,rfl⟩⟩
 · cases h; exact ⟨_,rfl,.inr ⟨1,b7,2,rfl,by omega,rfl,rfl⟩⟩
 · cases h; exact ⟨_,rfl,.inr ⟨0,b8,1,rfl,by omega,rfl,rfl⟩⟩
 · cases h
theorem Wx : ∀ n:IN,n.Ok→∀ s,Wf s→(lim prog).call KU [.agg n.cells] s=some (.b (mayI n),s):=by
 refine IN.ind fun n ih ho s hw=>?_
 refine fn_W Vw rfl rfl ?_
 have hz0:wkZ GM.cin [.agg n.cells]=[.agg n.cells]:=by simp [GM,wkZ,wk,IN.cells,itx]
 rw [hz0]
 have e0:s.enter.nb=s.nb:=rfl
 have H1:=(Hp.begin hw).new (.cells 25 n.cells)
 obtain ⟨q1,hq1⟩:∃ q1,s.enter.new (.cells 25 n.cells)=q1:=⟨_,rfl⟩
 rw [hq1,e0] at H1
 obtain ⟨_,q2,d2,m,b1,b2,b3,b4,b5,b6,b7,b8,rfl,H2⟩:=Re H1
 simp only [List.cons_append,List.nil_append] at H2
 have lk:=H2.ld 9 (off:=0) (v:=.i .u8 (n.kind:Nat)) rfl rfl
 have lk1:=H1.ld 0 (off:=0) (v:=.i .u8 (n.kind:Nat)) rfl rfl
 have hmb:=(H2.box (i:=8) rfl).1
 have lk1:=H1.ld 0 (off:=0) (v:=.i .u8 (n.kind:Nat)) rfl rfl
 have hzr:∀ u:St,Am.pub u (.agg [.s [],.b false,.i .i64 0,.i .i64 0,.nf])=some (.agg [.s [],.b false,.i .i64 0,.i .i64 0,.nf],u):=fun _=>rfl
 rw [QS]
 cases hr:ruleK n.kind with
 | none =>
   have hf:=UN (b1:=b1) (b2:=b2) (b3:=b3) (b4:=b4) (b5:=b5) (b6:=b6) (b7:=b7) (b8:=b8) hr
   obtain ⟨q3,d3,H3,n3⟩:=H2.adp (T:=71) (m:=5) (z:=[.s [],.b false,.i .i64 0,.i .i64 0,.nf]) (v:=.agg [.s [],.b false,.i .i64 0,.i .i64 0,.nf]) rfl ⟨rfl,rfl⟩
   simp only [GM,go_sem,AD,AA,AC,AB,KB_n,KB_x,Nat.reduceBEq,Nat.reduceAdd,Nat.reduceLT,Nat.reduceLeDiff,Nat.reduceEqDiff,reduceIte,Int.reduceEq,reduceCtorEq,nc4,hq1,e0]
   refine JS rfl ?_
   simp only [go_sem,AD,AA,AC,AB,KB_n,KB_x,Nat.reduceBEq,Nat.reduceAdd,Nat.reduceLT,Nat.reduceLeDiff,Nat.reduceEqDiff,reduceIte,Int.reduceEq,reduceCtorEq,d2,lk,hmb,hf,d3]
   refine Mz rfl (by simp only [go_sem,AD,AA,AC,AB,KB_n,KB_x,Nat.reduceBEq,Nat.reduceAdd,Nat.reduceLT,Nat.reduceLeDiff,Nat.reduceEqDiff,reduceIte,Int.reduceEq,reduceCtorEq]) (QH _ _) ⟨⟨_,rfl,lk⟩,⟨_,rfl,lk1⟩,⟨_,rfl,lk⟩,⟨_,rfl,lk⟩,trivial⟩ (JT ?_)
   simp only [go_sem,AD,AA,AC,AB,KB_n,KB_x,Nat.reduceBEq,Nat.reduceAdd,Nat.reduceLT,Nat.reduceLeDiff,Nat.reduceEqDiff,reduceIte,Int.reduceEq,reduceCtorEq]
   exact AL H3.over rfl rfl
 | some r =>
   obtain ⟨f,hf,hk⟩:=PU (b1:=b1) (b2:=b2) (b3:=b3) (b4:=b4) (b5:=b5) (b6:=b6) (b7:=b7) (b8:=b8) hr
   obtain ⟨g,c,rfl⟩:∃ g c,f=.fn g c:=by
    rcases hk with ⟨rfl,_⟩ | ⟨_,_,_,_,_,rfl,_⟩
    · exact ⟨_,_,rfl⟩
    · exact ⟨_,_,rfl⟩
   obtain ⟨q3,d3,H3,n3⟩:=H2.adp (T:=71) (m:=5) (z:=[.s [],.b false,.i .i64 0,.i .i64 0,.nf]) (v:=rlV r.word r.named r.least r.most (.fn g c)) rfl ⟨rfl,rfl⟩
   have hcall:Ej (lim prog) (.fn g c) [.i .i64 (n.kids.length:Nat)] q3=some (.b (r.kids n.kids.length),q3):=by
    rcases hk with ⟨h1,h2⟩ | ⟨i,b,j,hi,h8,h1,h2⟩
    · rw [h1,h2]; exact any_ok H3.wf
    · rw [h1,h2]
      have hb:((q2.nb,Box.cells 71 (rlV r.word r.named r.least r.most (.fn g c)).cells)::(BLs b1 b2 b3 b4 b5 b6 b7 b8++[(m,.map (ES b1 b2 b3 b4 b5 b6 b7 b8)),(s.nb,.cells 25 n.cells)]))[i+1]? = some (b,JB (j:Nat)):=by
       rw [List.getElem?_cons_succ,List.getElem?_append_left (by rw [List.getElem?_eq_some_iff] at hi; exact hi.1)]
       exact hi
      have:=H3.box (i:=i+1) hb
      exact YY H3.wf this.1 this.2.2
   have r0:=H3.ld 0 (off:=1) (v:=.b r.named) rfl rfl
   have r2:=H3.ld 0 (off:=2) (v:=.i .i64 (r.least:Nat)) rfl rfl
   have r3:=H3.ld 0 (off:=3) (v:=.i .i64 (r.most:Nat)) rfl rfl
   have r4:=H3.ld 0 (off:=4) (v:=.fn g c) rfl rfl
   have i0:=H3.ld 10 (off:=0) (v:=.i .u8 (n.kind:Nat)) rfl rfl
   have i1:=H3.ld 10 (off:=1) (v:=.s n.name) rfl rfl
   have i2:=H3.ld 10 (off:=2) (v:=.ws false 2 (n.items.map IT.av)) rfl rfl
   have i3:=H3.ld 10 (off:=3) (v:=.ws false 4 (n.kids.map IN.av)) rfl rfl
   have hV:=QR n.name ho.name q3 H3.wf
   have hI:∀ x∈n.items,Ej (lim prog) (.fn Gs []) [.agg x.cells] q3.enter=some (.b (!Gb x),q3.enter):=by
    intro x hx
    show (lim prog).call Gs ([.agg x.cells]++[]) q3.enter=_
    refine fn_W SP rfl rfl ?_
    have K1:=(Hp.begin H3.wf.enter).new (.cells 78 x.cells)
    generalize hu:q3.enter.enter.new (.cells 78 x.cells)=u at K1
    generalize hv:q3.enter.enter.nb=v at K1
    have lw:=K1.ldw 0 (m:=2) rfl rfl
    have hc:=V5 x (ho.items.1 x hx) u K1.wf
    have hz1:wkZ E8.cin ([.agg x.cells]++[])=[.agg x.cells]:=by simp [E8,wkZ,wk,IT.cells,ptx]
    rw [hz1]
    simp only [E8,go_sem,AD,AA,AC,AB,KB_n,KB_x,Nat.reduceBEq,Nat.reduceAdd,Nat.reduceLT,Nat.reduceLeDiff,Nat.reduceEqDiff,reduceIte,Int.reduceEq,reduceCtorEq,ic2,hu,hv,lw,OL,hc]
    exact AL K1.over rfl rfl
   have hK:∀ k∈n.kids,Ej (lim prog) (.fn Gt []) [.agg k.cells] q3.enter=some (.b (!mayI k),q3.enter):=by
    intro k hk
    show (lim prog).call Gt ([.agg k.cells]++[]) q3.enter=_
    refine fn_W SQ rfl rfl ?_
    have K1:=(Hp.begin H3.wf.enter).new (.cells 25 k.cells)
    generalize hu:q3.enter.enter.new (.cells 25 k.cells)=u at K1
    generalize hv:q3.enter.enter.nb=v at K1
    have lw:=K1.ldw 0 (m:=4) rfl rfl
    have hc:=ih k hk (ho.kids.1 k hk) u K1.wf
    have hz1:wkZ E9.cin ([.agg k.cells]++[])=[.agg k.cells]:=by simp [E9,wkZ,wk,IN.cells,itx]
    rw [hz1]
    simp only [E9,go_sem,AD,AA,AC,AB,KB_n,KB_x,Nat.reduceBEq,Nat.reduceAdd,Nat.reduceLT,Nat.reduceLeDiff,Nat.reduceEqDiff,reduceIte,Int.reduceEq,reduceCtorEq,nc4,hu,hv,lw,DS,hc]
    exact AL K1.over rfl rfl
   have hil:=ho.items.2
   have hkl:=ho.kids.2
   have hCI:=M4 n.items (by omega) Gs [] (fun x=>!Gb x) q3 H3.wf hI
   have hCK:=M5 n.kids (by omega) Gt [] (fun k=>!mayI k) q3 H3.wf hK
   have hai:(n.items.any fun x=>!Gb x)=!(n.items.all Gb):=by rw [List.not_all_eq_any_not]
   have hak:(n.kids.any fun x=>!mayI x)=!(n.kids.all mayI):=by rw [List.not_all_eq_any_not]
   rw [hai] at hCI; rw [hak] at hCK
   unfold itx at hCI; unfold inx at hCK
   have hpv:∀ (u:St),Am.pub u (rlV r.word r.named r.least r.most (.fn g c))=some (rlV r.word r.named r.least r.most (.fn g c),u):=fun _=>rfl
   have hbr:∀ b,KR s [.id] (.b b) (some ([.b b],q3)):=fun b=>AL H3.over rfl rfl
   have eq2:((n.kind:Int)=2)=(n.kind=2):=by simp only [eq_iff_iff]; omega
   simp only [GM,go_sem,AD,AA,AC,AB,KB_n,KB_x,Nat.reduceBEq,Nat.reduceAdd,Nat.reduceLT,Nat.reduceLeDiff,Nat.reduceEqDiff,reduceIte,Int.reduceEq,reduceCtorEq,nc4,hq1,e0]
   refine JS rfl ?_
   simp only [go_sem,AD,AA,AC,AB,KB_n,KB_x,Nat.reduceBEq,Nat.reduceAdd,Nat.reduceLT,Nat.reduceLeDiff,Nat.reduceEqDiff,reduceIte,Int.reduceEq,reduceCtorEq,d2,lk,hmb,hf,d3]
   refine Mz rfl (by simp only [go_sem,AD,AA,AC,AB,KB_n,KB_x,Nat.reduceBEq,Nat.reduceAdd,Nat.reduceLT,Nat.reduceLeDiff,Nat.reduceEqDiff,reduceIte,Int.reduceEq,reduceCtorEq]) (QH _ _) ⟨⟨_,rfl,lk⟩,⟨_,rfl,lk1⟩,⟨_,rfl,lk⟩,⟨_,rfl,lk⟩,trivial⟩ (JT ?_)
   cases hkd:r.kids n.kids.length with
   | false =>
     rw [hkd] at hcall
     simp only [go_sem,AD,AA,AC,AB,KB_n,KB_x,Nat.reduceBEq,Nat.reduceAdd,Nat.reduceLT,Nat.reduceLeDiff,Nat.reduceEqDiff,reduceIte,Int.reduceEq,reduceCtorEq,r4,i3,List.length_map,hcall,Bool.false_and]
     exact hbr _
   | true =>
   rw [hkd] at hcall
   by_cases c1:r.least≤n.items.length
   case neg =>
    have f1:((n.items.length:Int) < (r.least:Int))=True:=eq_true (by omega)
    simp only [go_sem,AD,AA,AC,AB,KB_n,KB_x,Nat.reduceBEq,Nat.reduceAdd,Nat.reduceLT,Nat.reduceLeDiff,Nat.reduceEqDiff,reduceIte,Int.reduceEq,reduceCtorEq,r2,r4,i2,i3,List.length_map,hcall,f1,decide_eq_false c1,Bool.false_and,Bool.true_and]
    exact hbr _
   have f1:((n.items.length:Int) < (r.least:Int))=False:=eq_false (by omega)
   by_cases c2:n.items.length≤r.most
   case neg =>
    have f2:((r.most:Int) < (n.items.length:Int))=True:=eq_true (by omega)
    simp only [go_sem,AD,AA,AC,AB,KB_n,KB_x,Nat.reduceBEq,Nat.reduceAdd,Nat.reduceLT,Nat.reduceLeDiff,Nat.reduceEqDiff,reduceIte,Int.reduceEq,reduceCtorEq,r2,r3,r4,i2,i3,List.length_map,hcall,f1,f2,decide_eq_true c1,decide_eq_false c2,Bool.false_and,Bool.true_and]
    exact hbr _
   have f2:((r.most:Int) < (n.items.length:Int))=False:=eq_false (by omega)
   simp only [go_sem,AD,AA,AC,AB,KB_n,KB_x,Nat.reduceBEq,Nat.reduceAdd,Nat.reduceLT,Nat.reduceLeDiff,Nat.reduceEqDiff,reduceIte,Int.reduceEq,reduceCtorEq,r2,r3,r4,i2,i3,List.length_map,hcall,f1,f2,decide_eq_true c1,decide_eq_true c2,Bool.true_and]
   have n0:CX (.i .i64 0)=some 0:=rfl
   by_cases hne:n.name=[]
   · have en : (n.name≠[])=False:=by simp [hne]
     cases hn:r.named with
     | true =>
       rw [hn] at r0
       simp only [go_sem,AD,AA,AC,AB,KB_n,KB_x,Nat.reduceBEq,Nat.reduceAdd,Nat.reduceLT,Nat.reduceLeDiff,Nat.reduceEqDiff,reduceIte,Int.reduceEq,reduceCtorEq,r0,i1,en,decide_false,Bool.true_beq,Bool.false_and]
       exact hbr _
     | false =>
       rw [hn] at r0
       simp only [go_sem,AD,AA,AC,AB,KB_n,KB_x,Nat.reduceBEq,Nat.reduceAdd,Nat.reduceLT,Nat.reduceLeDiff,Nat.reduceEqDiff,reduceIte,Int.reduceEq,reduceCtorEq,r0,i1,en,decide_false,Bool.not_false,Bool.true_or,BEq.rfl,Bool.true_and]
       by_cases k2:n.kind=2
       · obtain ⟨x,t,hxt⟩:∃ x t,n.items=x::t:=by
          rw [k2] at hr
          cases hr
          cases hii:n.items with
          | nil=>rw [hii] at c1; simp at c1
          | cons x t=>exact ⟨x,t,rfl⟩
         have hx0:(n.items.map IT.av)[0]? = some (.agg x.cells):=by rw [hxt]; rfl
         have hsh:F6 n.items=x.split:=by rw [hxt]; rfl
         have ls:∀ u:St,ldA u false 1 (.ep x.cells 1 .shut)=some (.b x.split):=fun _=>rfl
         have e2:((n.kind:Int)=2)=True:=eq_true (by omega)
         rw [hsh,decide_eq_true k2]
         cases hsp:x.split with
         | true =>
           rw [hsp] at ls
           simp only [go_sem,AD,AA,AC,AB,KB_n,KB_x,Nat.reduceBEq,Nat.reduceAdd,Nat.reduceLT,Nat.reduceLeDiff,Nat.reduceEqDiff,reduceIte,Int.reduceEq,reduceCtorEq,i0,e2,i2,hx0,n0,KI,Nat.zero_add,ls,Bool.not_true,Bool.false_and,Bool.and_self]
           exact hbr _
         | false =>
           rw [hsp] at ls
           simp only [go_sem,AD,AA,AC,AB,KB_n,KB_x,Nat.reduceBEq,Nat.reduceAdd,Nat.reduceLT,Nat.reduceLeDiff,Nat.reduceEqDiff,reduceIte,Int.reduceEq,reduceCtorEq,i0,e2,i2,hx0,n0,KI,Nat.zero_add,ls,Bool.not_false,Bool.and_false,Bool.true_and]
           cases hai2:n.items.all Gb with
           | false =>
             rw [hai2] at hCI
             simp only [go_sem,AD,AA,AC,AB,KB_n,KB_x,Nat.reduceBEq,Nat.reduceAdd,Nat.reduceLT,Nat.reduceLeDiff,Nat.reduceEqDiff,reduceIte,Int.reduceEq,reduceCtorEq,i2,hCI,Bool.not_false,Bool.false_and]
             exact hbr _
           | true =>
             rw [hai2] at hCI
             simp only [go_sem,AD,AA,AC,AB,KB_n,KB_x,Nat.reduceBEq,Nat.reduceAdd,Nat.reduceLT,Nat.reduceLeDiff,Nat.reduceEqDiff,reduceIte,Int.reduceEq,reduceCtorEq,i2,i3,hCI,hCK,Bool.not_true,Bool.not_not,Bool.true_and]
             exact hbr _
       · have e2:((n.kind:Int)=2)=False:=eq_false (by omega)
         rw [decide_eq_false k2]
         simp only [go_sem,AD,AA,AC,AB,KB_n,KB_x,Nat.reduceBEq,Nat.reduceAdd,Nat.reduceLT,Nat.reduceLeDiff,Nat.reduceEqDiff,reduceIte,Int.reduceEq,reduceCtorEq,i0,e2,Bool.false_and,Bool.not_false,Bool.true_and]
         cases hai2:n.items.all Gb with
         | false =>
           rw [hai2] at hCI
           simp only [go_sem,AD,AA,AC,AB,KB_n,KB_x,Nat.reduceBEq,Nat.reduceAdd,Nat.reduceLT,Nat.reduceLeDiff,Nat.reduceEqDiff,reduceIte,Int.reduceEq,reduceCtorEq,i2,hCI,Bool.not_false,Bool.false_and]
           exact hbr _
         | true =>
           rw [hai2] at hCI
           simp only [go_sem,AD,AA,AC,AB,KB_n,KB_x,Nat.reduceBEq,Nat.reduceAdd,Nat.reduceLT,Nat.reduceLeDiff,Nat.reduceEqDiff,reduceIte,Int.reduceEq,reduceCtorEq,i2,i3,hCI,hCK,Bool.not_true,Bool.not_not,Bool.true_and]
           exact hbr _
   · have en : (n.name≠[])=True:=by simp [hne]
     cases hn:r.named with
     | false =>
       rw [hn] at r0
       simp only [go_sem,AD,AA,AC,AB,KB_n,KB_x,Nat.reduceBEq,Nat.reduceAdd,Nat.reduceLT,Nat.reduceLeDiff,Nat.reduceEqDiff,reduceIte,Int.reduceEq,reduceCtorEq,r0,i1,en,decide_true,Bool.false_beq,Bool.not_true,Bool.false_and]
       exact hbr _
     | true =>
       rw [hn] at r0
       cases hv:FQ n.name with
       | false =>
         rw [hv] at hV
         simp only [go_sem,AD,AA,AC,AB,KB_n,KB_x,Nat.reduceBEq,Nat.reduceAdd,Nat.reduceLT,Nat.reduceLeDiff,Nat.reduceEqDiff,reduceIte,Int.reduceEq,reduceCtorEq,r0,i1,en,hV,decide_true,BEq.rfl,Bool.not_true,Bool.or_self,Bool.false_and,Bool.and_false]
         exact hbr _
       | true =>
         rw [hv] at hV
         simp only [go_sem,AD,AA,AC,AB,KB_n,KB_x,Nat.reduceBEq,Nat.reduceAdd,Nat.reduceLT,Nat.reduceLeDiff,Nat.reduceEqDiff,reduceIte,Int.reduceEq,reduceCtorEq,r0,i1,en,hV,decide_true,BEq.rfl,Bool.not_true,Bool.false_or,Bool.true_and]
         by_cases k2:n.kind=2
         · obtain ⟨x,t,hxt⟩:∃ x t,n.items=x::t:=by
            rw [k2] at hr
            cases hr
            cases hii:n.items with
            | nil=>rw [hii] at c1; simp at c1
            | cons x t=>exact ⟨x,t,rfl⟩
           have hx0:(n.items.map IT.av)[0]? = some (.agg x.cells):=by rw [hxt]; rfl
           have hsh:F6 n.items=x.split:=by rw [hxt]; rfl
           have ls:∀ u:St,ldA u false 1 (.ep x.cells 1 .shut)=some (.b x.split):=fun _=>rfl
           have e2:((n.kind:Int)=2)=True:=eq_true (by omega)
           rw [hsh,decide_eq_true k2]
           cases hsp:x.split with
           | true =>
             rw [hsp] at ls
             simp only [go_sem,AD,AA,AC,AB,KB_n,KB_x,Nat.reduceBEq,Nat.reduceAdd,Nat.reduceLT,Nat.reduceLeDiff,Nat.reduceEqDiff,reduceIte,Int.reduceEq,reduceCtorEq,i0,e2,i2,hx0,n0,KI,Nat.zero_add,ls,Bool.not_true,Bool.false_and,Bool.and_self]
             exact hbr _
           | false =>
             rw [hsp] at ls
             simp only [go_sem,AD,AA,AC,AB,KB_n,KB_x,Nat.reduceBEq,Nat.reduceAdd,Nat.reduceLT,Nat.reduceLeDiff,Nat.reduceEqDiff,reduceIte,Int.reduceEq,reduceCtorEq,i0,e2,i2,hx0,n0,KI,Nat.zero_add,ls,Bool.not_false,Bool.and_false,Bool.true_and]
             cases hai2:n.items.all Gb with
             | false =>
               rw [hai2] at hCI
               simp only [go_sem,AD,AA,AC,AB,KB_n,KB_x,Nat.reduceBEq,Nat.reduceAdd,Nat.reduceLT,Nat.reduceLeDiff,Nat.reduceEqDiff,reduceIte,Int.reduceEq,reduceCtorEq,i2,hCI,Bool.not_false,Bool.false_and]
               exact hbr _
             | true =>
               rw [hai2] at hCI
               simp only [go_sem,AD,AA,AC,AB,KB_n,KB_x,Nat.reduceBEq,Nat.reduceAdd,Nat.reduceLT,Nat.reduceLeDiff,Nat.reduceEqDiff,reduceIte,Int.reduceEq,reduceCtorEq,i2,i3,hCI,hCK,Bool.not_true,Bool.not_not,Bool.true_and]
               exact hbr _
         · have e2:((n.kind:Int)=2)=False:=eq_false (by omega)
           rw [decide_eq_false k2]
           simp only [go_sem,AD,AA,AC,AB,KB_n,KB_x,Nat.reduceBEq,Nat.reduceAdd,Nat.reduceLT,Nat.reduceLeDiff,Nat.reduceEqDiff,reduceIte,Int.reduceEq,reduceCtorEq,i0,e2,Bool.false_and,Bool.not_false,Bool.true_and]
           cases hai2:n.items.all Gb with
           | false =>
             rw [hai2] at hCI
             simp only [go_sem,AD,AA,AC,AB,KB_n,KB_x,Nat.reduceBEq,Nat.reduceAdd,Nat.reduceLT,Nat.reduceLeDiff,Nat.reduceEqDiff,reduceIte,Int.reduceEq,reduceCtorEq,i2,hCI,Bool.not_false,Bool.false_and]
             exact hbr _
           | true =>
             rw [hai2] at hCI
             simp only [go_sem,AD,AA,AC,AB,KB_n,KB_x,Nat.reduceBEq,Nat.reduceAdd,Nat.reduceLT,Nat.reduceLeDiff,Nat.reduceEqDiff,reduceIte,Int.reduceEq,reduceCtorEq,i2,i3,hCI,hCK,Bool.not_true,Bool.not_not,Bool.true_and]
             exact hbr _
end Go.Proofs.YtmnbfgfgjmmhfaaGreatDoor

namespace Go.Proofs.YtmnbfgfgjmmhfaaGreatDoor
open Go.Proofs.YtmnbfgfgjmmhfaaGreatDoor.Am
/-! ### Counted texts -/
theorem Mf (n:Nat):FE (n:Int)=(Go.Lib.decDigits n).map (·.toNat):=by
 unfold FE; rw [Go.Lib.itoa_nonneg]
def Bf (s:List Nat):List Nat:=FE (s.length:Int)++58::s
def Bx (p:PT):List Nat:=[if p.var then 118 else 98,if p.quoted then 113 else 112]++Bf p.text
def DQ (x:IT):List Nat:=(if x.split then 42 else 61)::Bf (x.parts.flatMap Bx)
def Mg (l:List (List Nat)):List Nat:=l.flatMap fun w=>32::w
theorem Ir (w:List Nat):∀ l:List (List Nat),joinN [32] (w::l)=w++Mg l
 | []=>by simp [joinN,Mg]
 | v::l=>by
   have:=Ir v l
   rw [joinN,this]
   simp [Mg]
/-! ### Lines -/
theorem run_ok:∀ (l:List Nat) (n:Nat),runN l n=l.length→∀ c∈l,c≠32
 | [],_,_,c,hc=>by simp at hc
 | x::l,0,h,c,hc=>by simp [runN] at h
 | x :: l,n+1,h,c,hc=>by
   simp only [runN] at h
   split at h
   · rename_i hx
     have:=run_ok l n (by simp only [List.length_cons] at h; omega)
     rcases List.mem_cons.1 hc with rfl | hc
     · rintro rfl
       revert hx; decide
     · exact this c hc
   · simp at h
def Rb (n:IN):List (List Nat):=(match ruleK n.kind with | some r=>r.word | none=>[])::((if n.name=[] then [] else [n.name])++n.items.map DQ)
def DJ (x:Nat×IN):List Nat:=List.replicate x.1 32++joinN [32] (Rb x.2)
def QN (n:IN):Prop:=∃ r,ruleK n.kind=some r∧r.named=decide (n.name≠[])∧(r.named=true→FQ n.name=true)
theorem Wv {n:IN} (h:mayI n=true):QN n∧∀ k∈n.kids,mayI k=true:=by
 rw [QS] at h
 cases hr:ruleK n.kind with
 | none=>rw [hr] at h; cases h
 | some r =>
   rw [hr] at h
   simp only [Bool.and_eq_true,beq_iff_eq,Bool.or_eq_true,Bool.not_eq_true'] at h
   obtain ⟨_,_,_,h4,h5,_,_,h8⟩:=h
   refine ⟨⟨r,hr,h4,fun hn=>?_⟩,fun k hk=>List.all_eq_true.1 h8 k hk⟩
   rcases h5 with h5 | h5
   · rw [hn] at h5; cases h5
   · exact h5
/-! ### Trees out of lines -/
theorem PL {n:IN} {P:IN→Prop} (hP:∀ n,P n→∀ k∈n.kids,P k):∀ (n:IN),P n→∀ d,∀ x∈allL n d,P x.2:=by
 refine IN.ind fun n ih hn d x hx=>?_
 rw [D9,List.mem_cons] at hx
 rcases hx with rfl | hx
 · exact hn
 · rw [List.mem_flatten] at hx
   obtain ⟨l,hl,hx⟩:=hx
   obtain ⟨k,hk,rfl⟩:=List.mem_map.1 hl
   exact ih k hk (hP n hn k hk) (d+1) x hx

attribute [local irreducible] W WO WE WQ WD Tr.get Tr.set
theorem Qe (b:Bool) (x y:List Nat) (s:St):(lim prog).call Ii [.b b,.s x,.s y] s=some (.s (if b then x else y),s):=by
 refine fn_W UB rfl rfl ?_
 cases b<;>simp only [Il,go_sem,AD,AA,AC,AB,KB_n,KB_x,Nat.reduceBEq,Nat.reduceAdd,Nat.reduceLT,Nat.reduceLeDiff,Nat.reduceEqDiff,reduceIte,Int.reduceEq,reduceCtorEq]<;>exact AL (Over.enter s) rfl rfl
theorem Uh (n:Nat) (h:n < 2^60) (s:St):(lim prog).call GW [.i .i64 (n:Nat)] s=some (.s (FE (n:Int)),s):=by
 refine KP M3 rfl ?_
 simp only [Jv]
 rw [if_pos (by omega)]
theorem Hd (l:List Nat) (h:l.length < 2^60):(Bf l).length≤l.length+22:=by
 unfold Bf
 have:=L7 (n:=(l.length:Int)) (by omega) (by omega)
 rw [List.length_append,List.length_cons]
 omega
theorem NS (l:List Nat) (h:l.length < 2^60) (s:St):(lim prog).call GL [.s l] s=some (.s (Bf l),s):=by
 refine fn_W PE rfl rfl ?_
 have hi:=Uh l.length h s.enter
 have hl:=L7 (n:=(l.length:Int)) (by omega) (by omega)
 have c1:Am.binOp .add (.s (FE (l.length:Int))) (.s [58])=some (.s (FE (l.length:Int)++[58])):=Et (by simp; omega)
 have c2:Am.binOp .add (.s (FE (l.length:Int)++[58])) (.s l)=some (.s (FE (l.length:Int)++[58]++l)):=Et (by simp; omega)
 simp only [FK,go_sem,AD,AA,AC,AB,KB_n,KB_x,Nat.reduceBEq,Nat.reduceAdd,Nat.reduceLT,Nat.reduceLeDiff,Nat.reduceEqDiff,reduceIte,Int.reduceEq,reduceCtorEq,hi,c1,c2]
 refine AL (Over.enter s) rfl ?_
 simp only [BE,wkZ,wk,Bf,List.append_assoc,List.cons_append,List.nil_append]
theorem Ui (p:PT):((if p.var then [118] else [98])++(if p.quoted then [113] else [112]))++Bf p.text=Bx p:=by
 unfold Bx
 cases p.var<;>cases p.quoted<;>rfl
theorem Uj {l:List PT} {i:Nat} {p:PT} (h:l[i]? = some p):(l.take (i+1)).flatMap Bx=(l.take i).flatMap Bx++Bx p:=by
 rw [List.getElem?_eq_some_iff] at h
 obtain ⟨hi,rfl⟩:=h
 rw [List.take_succ_eq_append_getElem hi,List.flatMap_append]
 simp
theorem fm_le (l:List PT) (i:Nat):((l.take i).flatMap Bx).length≤(l.flatMap Bx).length:=by
 have:l.flatMap Bx=(l.take i).flatMap Bx++(l.drop i).flatMap Bx:=by rw [← List.flatMap_append,List.take_append_drop]
 rw [this,List.length_append]; omega
theorem Yl (x:IT) (hx:x.Ok) (hb:(x.parts.flatMap Bx).length < 2^59) (s:St) (hw:Wf s):(lim prog).call Ma [.agg x.cells] s=some (.s (DQ x),s):=by
 refine fn_W UA rfl rfl ?_
 have hz0:wkZ F2.cin [.agg x.cells]=[.agg x.cells]:=by simp [F2,wkZ,wk,IT.cells,ptx]
 rw [hz0]
 have e0:s.enter.nb=s.nb:=rfl
 have H1:=(Hp.begin hw).new (.cells 78 x.cells)
 obtain ⟨q1,hq1⟩:∃ q1,s.enter.new (.cells 78 x.cells)=q1:=⟨_,rfl⟩
 rw [hq1,e0] at H1
 have l0:=H1.ld 0 (off:=0) (v:=.ws false 3 (x.parts.map PT.av)) rfl rfl
 have hpl:=hx.len
 simp only [F2,go_sem,AD,AA,AC,AB,KB_n,KB_x,Nat.reduceBEq,Nat.reduceAdd,Nat.reduceLT,Nat.reduceLeDiff,Nat.reduceEqDiff,reduceIte,Int.reduceEq,reduceCtorEq,ic2,e0,hq1,l0,List.length_map]
 refine BP (fun y e q=>∃ i:Nat,i+y=x.parts.length∧Hp s q s.en [] [(s.nb,.cells 78 x.cells)]∧e.get 1=.p s.nb 0∧e.get 3=.s ((x.parts.take i).flatMap Bx)∧e.get 7=.ws false 3 (x.parts.map PT.av)∧e.get 8=.i .i64 (x.parts.length:Nat)∧e.get 9=.i .i64 (i:Nat)) ?_ x.parts.length _ _ ?_
 · rintro y e q ⟨i,hiy,H,g1,g3,g7,g8,g9⟩
   by_cases h:i < x.parts.length
   · have h1:((i:Int) < (x.parts.length:Int))=True:=eq_true (by omega)
     obtain ⟨p,hp⟩:∃ p,x.parts[i]? = some p:=⟨_,List.getElem?_eq_getElem h⟩
     have hgp:=Is hp
     have hpo:=hx.parts p (List.mem_of_getElem? hp)
     have hw1:=AR (show i+1 < 2^63 by omega)
     obtain ⟨q2,d2,H2,n2⟩:=H.adp (T:=85) (m:=3) (z:=[.b false,.s [],.b false]) (v:=.agg p.cells) rfl ⟨pc3 p,po3 p⟩
     have k0:=H2.ld 0 (off:=0) (v:=.b p.var) rfl rfl
     have k1:=H2.ld 0 (off:=1) (v:=.s p.text) rfl rfl
     have k2:=H2.ld 0 (off:=2) (v:=.b p.quoted) rfl rfl
     have p1:=Qe p.var [118] [98] q2
     have p2:=Qe p.quoted [113] [112] q2
     have p3:=NS p.text hpo.len q2
     have hsn:=Uj hp
     have hle:=fm_le x.parts (i+1)
     rw [hsn,List.length_append] at hle
     have hcl:(Bf p.text).length≤(Bx p).length:=by unfold Bx; simp; omega
     have c1:Am.binOp .add (.s (if p.var=true then [118] else [98])) (.s (if p.quoted=true then [113] else [112]))=some (.s ((if p.var=true then [118] else [98])++(if p.quoted=true then [113] else [112]))):=Et (by cases p.var<;>cases p.quoted<;>simp)
     have c2:Am.binOp .add (.s ((if p.var=true then [118] else [98])++(if p.quoted=true then [113] else [112]))) (.s (Bf p.text))=some (.s (Bx p)):=by
      rw [Et (by cases p.var<;>cases p.quoted<;>simp<;>omega),Ui]
     have c3:Am.binOp .add (.s ((x.parts.take i).flatMap Bx)) (.s (Bx p))=some (.s ((x.parts.take (i+1)).flatMap Bx)):=by
      rw [Et (by omega),hsn]
     simp only [go_sem,AD,AA,AC,AB,KB_n,KB_x,Nat.reduceBEq,Nat.reduceAdd,Nat.reduceLT,Nat.reduceLeDiff,Nat.reduceEqDiff,reduceIte,Int.reduceEq,reduceCtorEq,g1,g3,g7,g8,g9,h1,AG,hgp,pld,Dw,pc3,d2]
     refine JS rfl ?_
     simp only [go_sem,AD,AA,AC,AB,KB_n,KB_x,Nat.reduceBEq,Nat.reduceAdd,Nat.reduceLT,Nat.reduceLeDiff,Nat.reduceEqDiff,reduceIte,Int.reduceEq,reduceCtorEq,g1,g3,g7,g8,g9,k0,k1,k2,p1,p2,p3,c1,c2,c3]
     refine Mz rfl (by simp only [go_sem,AD,AA,AC,AB,KB_n,KB_x,Nat.reduceBEq,Nat.reduceAdd,Nat.reduceLT,Nat.reduceLeDiff,Nat.reduceEqDiff,reduceIte,Int.reduceEq,reduceCtorEq]) (YN _) ⟨⟨_,rfl,k2⟩,⟨_,rfl,k2⟩,⟨_,rfl,k2⟩,⟨_,rfl,k2⟩,trivial⟩ ?_
     refine Mz rfl (by simp only [go_sem,AD,AA,AC,AB,KB_n,KB_x,Nat.reduceBEq,Nat.reduceAdd,Nat.reduceLT,Nat.reduceLeDiff,Nat.reduceEqDiff,reduceIte,Int.reduceEq,reduceCtorEq]) (QI _) ⟨⟨_,rfl,k1⟩,⟨_,rfl,k1⟩,⟨_,rfl,k1⟩,⟨_,rfl,k1⟩,⟨_,rfl,k1⟩,⟨_,rfl,k1⟩,⟨_,rfl,k1⟩,⟨_,rfl,k1⟩,trivial⟩ (JT ?_)
     simp only [go_sem,AD,AA,AC,AB,KB_n,KB_x,Nat.reduceBEq,Nat.reduceAdd,Nat.reduceLT,Nat.reduceLeDiff,Nat.reduceEqDiff,reduceIte,Int.reduceEq,reduceCtorEq,g1,g7,g8,g9,hw1]
     exact ⟨y - 1,by omega,i+1,by omega,H2.dropB,rfl,rfl⟩
   · have h1:((i:Int) < (x.parts.length:Int))=False:=eq_false (by omega)
     have hi:x.parts.take i=x.parts:=List.take_of_length_le (by omega)
     rw [hi] at g3
     have l1:=H.ld 0 (off:=1) (v:=.b x.split) rfl rfl
     have p1:=Qe x.split [42] [61] q
     have p2:=NS (x.parts.flatMap Bx) (by omega) q
     have hcl:=Hd (x.parts.flatMap Bx) (by omega)
     have c1:Am.binOp .add (.s (if x.split=true then [42] else [61])) (.s (Bf (x.parts.flatMap Bx)))=some (.s (DQ x)):=by
      rw [Et (by cases x.split<;>simp<;>omega)]
      unfold DQ
      cases x.split<;>rfl
     simp only [go_sem,AD,AA,AC,AB,KB_n,KB_x,Nat.reduceBEq,Nat.reduceAdd,Nat.reduceLT,Nat.reduceLeDiff,Nat.reduceEqDiff,reduceIte,Int.reduceEq,reduceCtorEq,g1,g3,g7,g8,g9,h1,l1,p1,p2,c1]
     exact AL H.over rfl (by simp only [BE,wkZ,wk])
 · simp only [go_sem,AD,AA,AC,AB,KB_n,KB_x,Nat.reduceBEq,Nat.reduceAdd,Nat.reduceLT,Nat.reduceLeDiff,Nat.reduceEqDiff,reduceIte,Int.reduceEq,reduceCtorEq]
   exact ⟨0,by omega,H1,by simp,rfl⟩

theorem Lu:∀ (n:IN) (d:Nat),(allL n d).length=nodesI n:=by
 refine IN.ind fun n ih d=>?_
 rw [D9,Iq,List.length_cons,List.length_flatten,List.map_map]
 have:n.kids.map (List.length∘fun k=>allL k (d+1))=n.kids.map nodesI:=List.map_congr_left fun k hk=>ih k hk (d+1)
 rw [this]; omega
abbrev sA:C:=.skip
abbrev sC:C:=subC Ee.body [1,1,0,1,0,1]
theorem V0 {s:St} {L:List (Nat×IN)} {x0:Nat} {O:Nat→Prop} {k1:Nat} {e:Tr} (hx:x0 < k1) (hs:s.nb≤x0) (g3:e.get 3=.p x0 0) (hL:L.length < 2^62) (hO:∀ j,O j→j < k1∧j≠x0) :
    BodyG prog O s (k1+1) (k1+1) (.yld k1) (alV L) (fun _ j q=>q.box? k1=some (.loop 0 none e [6,7] sA sC)∧q.box? x0=some (.cells 3 [.i .i64 (j:Nat)])) (fun _=>False) where
 stab:=fun C j q q' _ ⟨h1,h2⟩ f=>⟨by rw [f.box _ (by omega) fun h=>by have:=(hO _ h).1; omega]; exact h1,by rw [f.box _ (by omega) fun h=>(hO _ h).2 rfl]; exact h2⟩
 enter:=fun C j q _ h _=>h
 leave:=fun C j s q v _ ⟨h1,h2⟩ hs hn ht hw hv=>⟨by rw [Dg hw hn (by omega)]; exact h1,by rw [Dg hw hn (by omega)]; exact h2⟩
 stabR:=fun q q' h _=>h.elim
 leaveR:=fun s q v h _ _ _ _ _=>h.elim
 step:=by
  intro C j hj q hC ⟨hk,hb0⟩ hov hw hh
  have hj':j < L.length:=by simpa [alV] using hj
  obtain ⟨x,hx'⟩:∃ x,L[j]? = some x:=⟨_,List.getElem?_eq_getElem hj'⟩
  have hLj:(alV L)[j]=[.i .i64 (x.1:Nat),.agg x.2.cells]:=by
   rw [List.getElem?_eq_getElem hj'] at hx'
   simp only [alV,List.getElem_map]
   rw [Option.some.inj hx']
  rw [hLj]
  obtain ⟨q1,hq1⟩:∃ q1,q.setBox k1 (.loop 1 none e [6,7] sA sC)=q1:=⟨_,rfl⟩
  have w1:Wf q1:=by rw [← hq1]; exact hw.setBox _ _
  have nb1:q1.nb=q.nb∧q1.nt=q.nt:=by rw [← hq1]; exact ⟨rfl,rfl⟩
  have bx1:∀ i,q1.box? i=if i=k1 then some (.loop 1 none e [6,7] sA sC) else q.box? i:=fun i=>by rw [← hq1]; exact setBox_box? hw.b (by omega) i
  have ov1:Over s q1:=by rw [← hq1]; exact Over.setBox hov (by omega) (by omega) _
  have b1k:=bx1 k1
  rw [if_pos rfl] at b1k
  have b10:q1.box? x0=some (.cells 3 [.i .i64 (j:Nat)]):=by rw [bx1,if_neg (by omega)]; exact hb0
  have ldn:=Er (s:=q1) (v:=.i .i64 (j:Nat)) (off:=0) b10 rfl
  have hw1:=AR (show j+1 < 2^63 by omega)
  have st1:stA q1 1 (.p x0 0) (.i .i64 ((j+1:Nat):Int))=some (q1.setBox x0 (.cells 3 [.i .i64 ((j+1:Nat):Int)])):=by
   rw [RL b10 rfl rfl (by simp)]
   rfl
  obtain ⟨q2,hq2⟩:∃ q2,q1.setBox x0 (.cells 3 [.i .i64 ((j+1:Nat):Int)])=q2:=⟨_,rfl⟩
  rw [hq2] at st1
  have w2:Wf q2:=by rw [← hq2]; exact w1.setBox _ _
  have bx2:∀ i,q2.box? i=if i=x0 then some (.cells 3 [.i .i64 ((j+1:Nat):Int)]) else q1.box? i:=fun i=>by rw [← hq2]; exact setBox_box? w1.b (by omega) i
  have nb2:q2.nb=q.nb∧q2.nt=q.nt:=by rw [← hq2]; exact nb1
  have ov2:Over s q2:=by rw [← hq2]; exact Over.setBox ov1 (by omega) (by omega) _
  have hkO:¬ O k1:=fun h=>by have:=(hO _ h).1; omega
  refine JC ?_
  refine N5 (t:=(e.set 10 6 (.i .i64 (x.1:Nat))).set 10 7 (.agg x.2.cells)) hk rfl ?_
  simp only [sA,go_sem,AD,AA,AC,AB,KB_n,KB_x,Nat.reduceBEq,Nat.reduceAdd,Nat.reduceLT,Nat.reduceLeDiff,Nat.reduceEqDiff,reduceIte,Int.reduceEq,reduceCtorEq]
  refine ⟨_,_,_,_,hk,?_⟩
  rw [hq1]
  simp only [sC,Ee,subC,go_sem,AD,AA,AC,AB,KB_n,KB_x,Nat.reduceBEq,Nat.reduceAdd,Nat.reduceLT,Nat.reduceLeDiff,Nat.reduceEqDiff,reduceIte,Int.reduceEq,reduceCtorEq,g3,ldn,hw1,st1]
  have b2k:q2.box? k1=some (.loop 1 none e [6,7] sA sC):=by rw [bx2,if_neg (by omega)]; exact b1k
  have bx3:∀ B i,(q2.setBox k1 B).box? i=if i=k1 then some B else q2.box? i:=fun B i=>setBox_box? w2.b (by omega) i
  refine Ic b2k (by omega) w2 ov2 (by omega) (by omega) (by omega) hkO (fun i hi hlt=>?_) (fun _=>⟨by rw [bx3,if_pos rfl]; rfl,by rw [bx3,if_neg (by omega),bx2,if_pos rfl]⟩) (fun hh=>by simp at hh) (fun i hh=>by simp at hh)
  have h1:i≠k1:=by
   rintro rfl
   rcases hi with hi | hi
   · exact hkO hi
   · omega
  have h2:i≠x0:=by
   rintro rfl
   rcases hi with hi | hi
   · exact (hO _ hi).2 rfl
   · omega
  rw [bx2,if_neg h2,bx1,if_neg h1]
theorem YQ (n:IN) (ho:n.Ok) (hb:nodesI n < 2^61) (s:St) (hw:Wf s):(lim prog).call KV [.agg n.cells] s=some (.i .i64 (nodesI n:Nat),s):=by
 refine fn_W T6 rfl rfl ?_
 have hz0:wkZ Ee.cin [.agg n.cells]=[.agg n.cells]:=by simp [Ee,wkZ,wk,IN.cells,itx]
 rw [hz0]
 have e0:s.enter.nb=s.nb:=rfl
 have H1:=(Hp.begin hw).new (.cells 25 n.cells)
 obtain ⟨q1,hq1⟩:∃ q1,s.enter.new (.cells 25 n.cells)=q1:=⟨_,rfl⟩
 have nb1:q1.nb=s.nb+1:=by rw [← hq1]; rfl
 rw [hq1,e0] at H1
 have H2:=H1.new (.cells 3 [.i .i64 0])
 obtain ⟨q2,hq2⟩:∃ q2,q1.new (.cells 3 [.i .i64 0])=q2:=⟨_,rfl⟩
 rw [hq2] at H2
 obtain ⟨q3,d3,H3,n3,_⟩:=H2.st 0 (off:=0) (v:=.i .i64 0) rfl (by simp) ⟨rfl,rfl⟩
 have nb3:q3.nb=s.nb+2:=by rw [n3,← hq2]; show q1.nb+1=_; omega
 have lw:=H3.ldw (m:=4) 1 rfl rfl
 obtain ⟨q5,d5,w5,nb5,nt5,bl5,bt5,bx5,ov5,fq5⟩:=RY (n:=n) (d:=0) H3.wf
 have ov5:=ov5 s H3.over
 simp only [Int.natCast_zero] at d5
 simp only [Ee,go_sem,AD,AA,AC,AB,KB_n,KB_x,Nat.reduceBEq,Nat.reduceAdd,Nat.reduceLT,Nat.reduceLeDiff,Nat.reduceEqDiff,reduceIte,Int.reduceEq,reduceCtorEq,nc4,hq1,e0,hq2,nb1,lw,DS]
 rw [nb1] at d3
 simp only [go_sem,AD,AA,AC,AB,KB_n,KB_x,Nat.reduceBEq,Nat.reduceAdd,Nat.reduceLT,Nat.reduceLeDiff,Nat.reduceEqDiff,reduceIte,Int.reduceEq,reduceCtorEq,d3,lw,DS,d5]
 refine VU (g:=DL) (caps:=[.p (q3.nb+1) 0,.p q3.nb 0]) (by simp only [go_sem,AD,AA,AC,AB,KB_n,KB_x,Nat.reduceBEq,Nat.reduceAdd,Nat.reduceLT,Nat.reduceLeDiff,Nat.reduceEqDiff,reduceIte,Int.reduceEq,reduceCtorEq]) fun e' he'=>?_
 have z3:e'.get 3=.p (s.nb+1) 0:=by rw [he']; simp only [go_sem,AD,AA,AC,AB,KB_n,KB_x,Nat.reduceBEq,Nat.reduceAdd,Nat.reduceLT,Nat.reduceLeDiff,Nat.reduceEqDiff,reduceIte,Int.reduceEq,reduceCtorEq]
 clear he'
 obtain ⟨q6,hq6⟩:∃ q6,q5.new (.loop 0 none e' [6,7] sA sC)=q6:=⟨_,rfl⟩
 have w6:Wf q6:=by rw [← hq6]; exact w5.new _
 have nb6:q6.nb=q5.nb+1:=by rw [← hq6]; rfl
 have ov6:Over s q6:=by rw [← hq6]; exact ov5.new _
 have bx6:∀ i,i < q5.nb→q6.box? i=q5.box? i:=fun i hi=>by rw [← hq6]; exact Co hi
 have bk6:q6.box? q5.nb=some (.loop 0 none e' [6,7] sA sC):=by rw [← hq6]; exact BW q5 _
 have B:=V0 (s:=s) (L:=allL n 0) (x0:=s.nb+1) (k1:=q5.nb) (e:=e') (O:=fun j=>j=q3.nb+1∨j=q3.nb) (by omega) (by omega) z3 (by rw [Lu]; omega) (fun j hj=>by omega)
 have b0:=(H3.box (i:=0) rfl).1
 simp only [nb1] at b0
 obtain ⟨q7,d7,ov7,w7,nb7,nt7,hres7⟩:=QM n ho 0 (by omega) (s:=q6) (xb:=q3.nb+1) (lb:=q3.nb) (by rw [bx6 _ (by omega)]; exact bt5) (by rw [bx6 _ (by omega)]; exact bl5) (by omega) (by omega)
  s (q5.nb+1) (q5.nb+1) q5.nb _ _ (C0 (q5.nb+1) 0) (C0.safe _ _) (Nat.le_refl _) B ⟨bk6,by rw [bx6 _ (by omega),bx5 _ (by omega)]; exact b0⟩ ov6 w6 (by omega) (by omega)
 rw [← hq6] at d7
 rcases hres7 with ⟨hk7,hx7⟩ | h
 · refine ⟨_,q7,d7,_,_,_,_,_,_,hk7,by decide,?_⟩
   have hlen:(alV (allL n 0)).length=nodesI n:=by simp [alV,Lu]
   rw [hlen] at hx7
   have bx8:(q7.setBox q5.nb .used).box? (s.nb+1)=some (.cells 3 [.i .i64 (nodesI n:Nat)]):=by rw [setBox_box? w7.b (by omega),if_neg (by omega)]; exact hx7
   have la:=Er (v:=.i .i64 (nodesI n:Nat)) (off:=0) bx8 rfl
   simp only [go_sem,AD,AA,AC,AB,KB_n,KB_x,Nat.reduceBEq,Nat.reduceAdd,Nat.reduceLT,Nat.reduceLeDiff,Nat.reduceEqDiff,reduceIte,Int.reduceEq,reduceCtorEq,z3,la]
   exact AL (Over.setBox ov7 (by omega) (by omega) _) rfl rfl
 · exact h.elim

def Fe (p:PT):Option (List Nat):=if p.var&&!(match p.text with | [c]=>decide (c∈K11) | _=>false) then some p.text else none
def Cv (l:List IT):List (List Nat):=l.flatMap fun x=>x.parts.filterMap Fe
def setsX (n:IN):List (List Nat):=if n.kind=2∨n.kind=9 then [n.name] else []
theorem Ji {l:List IT} {i:Nat} {x:IT} (h:l[i]? = some x):Cv (l.take (i+1))=Cv (l.take i)++x.parts.filterMap Fe:=by
 rw [List.getElem?_eq_some_iff] at h
 obtain ⟨hi,rfl⟩:=h
 unfold Cv
 rw [List.take_succ_eq_append_getElem hi,List.flatMap_append]
 simp
theorem JU {l:List PT} {i:Nat} {p:PT} (h:l[i]? = some p):(l.take (i+1)).filterMap Fe=(l.take i).filterMap Fe++(Fe p).toList:=by
 rw [List.getElem?_eq_some_iff] at h
 obtain ⟨hi,rfl⟩:=h
 rw [List.take_succ_eq_append_getElem hi,List.filterMap_append]
 cases h:Fe l[i]<;>simp [List.filterMap_cons,h]
theorem PH {l:List IT} {i j:Nat} {x:IT} (h:l[i]? = some x):(Cv (l.take i)++(x.parts.take j).filterMap Fe).length≤(Cv l).length:=by
 have h1:List.Sublist ((x.parts.take j).filterMap Fe) (x.parts.filterMap Fe):=(List.take_sublist j x.parts).filterMap Fe
 have h2:(Cv (l.take (i+1))).length≤(Cv l).length:=by
  have:Cv l=Cv (l.take (i+1))++Cv (l.drop (i+1)):=by
   unfold Cv
   rw [← List.flatMap_append,List.take_append_drop]
  rw [this,List.length_append]; omega
 rw [Ji h,List.length_append] at h2
 rw [List.length_append]
 have:=h1.length_le
 omega
theorem Kb (a b:List (List Nat)):a.map AV.s++b.map AV.s=(a++b).map AV.s:=by rw [List.map_append]
theorem V1 (n:IN) (s:St) (hw:Wf s):(lim prog).call Fy [.agg n.cells] s=some (tx (setsX n),s):=by
 refine fn_W QJ rfl rfl ?_
 have hz0:wkZ Da.cin [.agg n.cells]=[.agg n.cells]:=by simp [Da,wkZ,wk,IN.cells,itx]
 rw [hz0]
 have e0:s.enter.nb=s.nb:=rfl
 have H1:=(Hp.begin hw).new (.cells 25 n.cells)
 obtain ⟨q1,hq1⟩:∃ q1,s.enter.new (.cells 25 n.cells)=q1:=⟨_,rfl⟩
 rw [hq1,e0] at H1
 have l0:=H1.ld 0 (off:=0) (v:=.i .u8 (n.kind:Nat)) rfl rfl
 have l1:=H1.ld 0 (off:=1) (v:=.s n.name) rfl rfl
 have hal:Ak 1 [AV.s n.name]=true:=rfl
 unfold setsX
 by_cases h2:n.kind=2
 · have e2:((n.kind:Int)=2)=True:=eq_true (by omega)
   rw [if_pos (.inl h2)]
   simp only [Da,go_sem,AD,AA,AC,AB,KB_n,KB_x,Nat.reduceBEq,Nat.reduceAdd,Nat.reduceLT,Nat.reduceLeDiff,Nat.reduceEqDiff,reduceIte,Int.reduceEq,reduceCtorEq,nc4,hq1,e0,l0,l1,e2,hal]
   exact AL H1.over rfl rfl
 · have e2:((n.kind:Int)=2)=False:=eq_false (by omega)
   by_cases h9:n.kind=9
   · have e9:((n.kind:Int)=9)=True:=eq_true (by omega)
     rw [if_pos (.inr h9)]
     simp only [Da,go_sem,AD,AA,AC,AB,KB_n,KB_x,Nat.reduceBEq,Nat.reduceAdd,Nat.reduceLT,Nat.reduceLeDiff,Nat.reduceEqDiff,reduceIte,Int.reduceEq,reduceCtorEq,nc4,hq1,e0,l0,l1,e2,e9,hal]
     exact AL H1.over rfl rfl
   · have e9:((n.kind:Int)=9)=False:=eq_false (by omega)
     rw [if_neg (by omega)]
     simp only [Da,go_sem,AD,AA,AC,AB,KB_n,KB_x,Nat.reduceBEq,Nat.reduceAdd,Nat.reduceLT,Nat.reduceLeDiff,Nat.reduceEqDiff,reduceIte,Int.reduceEq,reduceCtorEq,nc4,hq1,e0,l0,l1,e2,e9]
     exact AL H1.over rfl rfl
theorem UE (n : IN) (ho:n.Ok) (hb:(Cv n.items).length < 2^36) (s:St) (hw:Wf s):(lim prog).call FI [.agg n.cells] s=some (tx (Cv n.items),s):=by
 refine fn_W PA rfl rfl ?_
 have hz0:wkZ Ds.cin [.agg n.cells]=[.agg n.cells]:=by simp [Ds,wkZ,wk,IN.cells,itx]
 rw [hz0]
 have e0:s.enter.nb=s.nb:=rfl
 have H1:=(Hp.begin hw).new (.cells 25 n.cells)
 obtain ⟨q1,hq1⟩:∃ q1,s.enter.new (.cells 25 n.cells)=q1:=⟨_,rfl⟩
 rw [hq1,e0] at H1
 have l2:=H1.ld 0 (off:=2) (v:=.ws false 2 (n.items.map IT.av)) rfl rfl
 have hil:=ho.items.2
 simp only [Ds,go_sem,AD,AA,AC,AB,KB_n,KB_x,Nat.reduceBEq,Nat.reduceAdd,Nat.reduceLT,Nat.reduceLeDiff,Nat.reduceEqDiff,reduceIte,Int.reduceEq,reduceCtorEq,nc4,hq1,e0,l2,List.length_map]
 refine BP (fun x e q=>∃ (i:Nat) (a:AV),i+x=n.items.length∧Hp s q s.en [⟨1,9,a,(Cv (n.items.take i)).map .s,true⟩] [(s.nb,.cells 25 n.cells)]∧e.get 1=.p s.nb 0∧e.get 3=a∧e.get 9=.ws false 2 (n.items.map IT.av)∧e.get 10=.i .i64 (n.items.length:Nat)∧e.get 11=.i .i64 (i:Nat)) ?_ n.items.length _ _ ?_
 · rintro x e q ⟨i,a,hix,H,g1,g3,g9,g10,g11⟩
   by_cases hi:i < n.items.length
   · have h1 : ((i:Int) < (n.items.length:Int))=True:=eq_true (by omega)
     obtain ⟨y,hy⟩:∃ y,n.items[i]? = some y:=⟨_,List.getElem?_eq_getElem hi⟩
     have hyo:=ho.items.1 y (List.mem_of_getElem? hy)
     have hg:=It hy
     have H2:=H.new (.cells 78 [.nsl,.b false])
     obtain ⟨q2,hq2⟩:∃ q2,q.new (.cells 78 [.nsl,.b false])=q2:=⟨_,rfl⟩
     rw [hq2] at H2
     obtain ⟨q3,d3,H3,n3,_⟩:=H2.stw 0 (m:=2) (v:=.agg y.cells) rfl rfl ⟨ic2 y,io2 y⟩
     have lp:=H3.ld 0 (off:=0) (v:=.ws false 3 (y.parts.map PT.av)) rfl rfl
     have hpl:=hyo.len
     have hw1:=AR (show i+1 < 2^63 by omega)
     simp only [go_sem,AD,AA,AC,AB,KB_n,KB_x,Nat.reduceBEq,Nat.reduceAdd,Nat.reduceLT,Nat.reduceLeDiff,Nat.reduceEqDiff,reduceIte,Int.reduceEq,reduceCtorEq,g1,g3,g9,g10,g11,h1,AG,hg,ild,OL,ic2,hq2,d3,lp,List.length_map]
     refine BP (fun z e q=>∃ (j:Nat) (a:AV),j+z=y.parts.length∧Hp s q s.en [⟨1,9,a,(Cv (n.items.take i)++(y.parts.take j).filterMap Fe).map .s,true⟩] [(s.nb,.cells 25 n.cells)]∧e.get 1=.p s.nb 0∧e.get 3=a∧e.get 9=.ws false 2 (n.items.map IT.av)∧e.get 10=.i .i64 (n.items.length:Nat)∧e.get 11=.i .i64 (i:Nat)∧e.get 16=.ws false 3 (y.parts.map PT.av)∧e.get 17=.i .i64 (y.parts.length:Nat)∧e.get 18=.i .i64 (j:Nat)) ?_ y.parts.length _ _ ?_
     · rintro z e q ⟨j,a,hjz,H,g1,g3,g9,g10,g11,g16,g17,g18⟩
       by_cases hj:j < y.parts.length
       · have f1:((j:Int) < (y.parts.length:Int))=True:=eq_true (by omega)
         obtain ⟨p,hp⟩:∃ p,y.parts[j]? = some p:=⟨_,List.getElem?_eq_getElem hj⟩
         have hpo:=hyo.parts p (List.mem_of_getElem? hp)
         have hgp:=Is hp
         have H4:=H.new (.cells 85 [.b false,.s [],.b false])
         obtain ⟨q4,hq4⟩:∃ q4,q.new (.cells 85 [.b false,.s [],.b false])=q4:=⟨_,rfl⟩
         rw [hq4] at H4
         obtain ⟨q5,d5,H5,n5,_⟩:=H4.stw 0 (m:=3) (v:=.agg p.cells) rfl rfl ⟨pc3 p,po3 p⟩
         have k0:=H5.ld 0 (off:=0) (v:=.b p.var) rfl rfl
         have k1:=H5.ld 0 (off:=1) (v:=.s p.text) rfl rfl
         have hwj:=AR (show j+1 < 2^63 by omega)
         have hsn:=JU hp
         have hle:=PH (j:=j) hy
         have hal:Ak 1 [AV.s p.text]=true:=rfl
         obtain ⟨a',q6,d6,H6,n6,_⟩:=H5.app 0 (y:=.sl 1 [.s p.text] .full) (ys:=[.s p.text]) rfl rfl (by rw [List.length_map]; simp only [List.length_cons,List.length_nil]; omega)
         have hD5:=H5.dropB
         have hD6:=H6.dropB
         have key:∀ b:Bool,(!(match p.text with | [c]=>decide (c∈K11) | _=>false))=b→p.var=true→Fe p=if b then some p.text else none:=fun b h hv=>by
          unfold Fe; rw [hv,h,Bool.true_and]
         cases hv:p.var with
         | false =>
           rw [hv] at k0
           have hrt:Fe p=none:=by unfold Fe; rw [hv]; rfl
           rw [hrt,Option.toList_none,List.append_nil] at hsn
           simp only [go_sem,AD,AA,AC,AB,KB_n,KB_x,Nat.reduceBEq,Nat.reduceAdd,Nat.reduceLT,Nat.reduceLeDiff,Nat.reduceEqDiff,reduceIte,Int.reduceEq,reduceCtorEq,g1,g3,g9,g10,g11,g16,g17,g18,f1,AG,hgp,pld,Dw,pc3,hq4,d5,k0,hwj]
           exact ⟨z - 1,by omega,j+1,a,by omega,by rw [hsn]; exact hD5,rfl,rfl⟩
         | true =>
           rw [hv] at k0
           by_cases hl1:p.text.length=1
           · obtain ⟨c,hc⟩:=List.length_eq_one_iff.1 hl1
             have e1:((p.text.length:Int)=1)=True:=eq_true (by omega)
             have hC:=FM K11 c (hpo.text.lt c (by rw [hc]; simp)) q5
             rw [← hc] at hC
             cases hk:decide (c∈K11) with
             | true =>
               have hrt:=key false (by rw [hc]; simp only [hk]; rfl) hv
               rw [if_neg (by simp)] at hrt
               rw [hrt,Option.toList_none,List.append_nil] at hsn
               rw [hk] at hC
               simp only [go_sem,AD,AA,AC,AB,KB_n,KB_x,Nat.reduceBEq,Nat.reduceAdd,Nat.reduceLT,Nat.reduceLeDiff,Nat.reduceEqDiff,reduceIte,Int.reduceEq,reduceCtorEq,g1,g3,g9,g10,g11,g16,g17,g18,f1,AG,hgp,pld,Dw,pc3,hq4,d5,k0,k1,e1,hC,hwj]
               exact ⟨z - 1,by omega,j+1,a,by omega,by rw [hsn]; exact hD5,rfl,rfl⟩
             | false =>
               have hrt:=key true (by rw [hc]; simp only [hk]; rfl) hv
               rw [if_pos rfl] at hrt
               rw [hrt,Option.toList_some] at hsn
               rw [hk] at hC
               simp only [go_sem,AD,AA,AC,AB,KB_n,KB_x,Nat.reduceBEq,Nat.reduceAdd,Nat.reduceLT,Nat.reduceLeDiff,Nat.reduceEqDiff,reduceIte,Int.reduceEq,reduceCtorEq,g1,g3,g9,g10,g11,g16,g17,g18,f1,AG,hgp,pld,Dw,pc3,hq4,d5,k0,k1,e1,hC,hal,d6,hwj]
               exact ⟨z - 1,by omega,j+1,a',by omega,by rw [hsn,← List.append_assoc,← Kb]; exact hD6,rfl,rfl⟩
           · have e1:((p.text.length:Int)=1)=False:=eq_false (by omega)
             have hrt:=key true (by
              split
              · rename_i c hc
                rw [hc] at hl1
                simp at hl1
              · rfl) hv
             rw [if_pos rfl] at hrt
             rw [hrt,Option.toList_some] at hsn
             simp only [go_sem,AD,AA,AC,AB,KB_n,KB_x,Nat.reduceBEq,Nat.reduceAdd,Nat.reduceLT,Nat.reduceLeDiff,Nat.reduceEqDiff,reduceIte,Int.reduceEq,reduceCtorEq,g1,g3,g9,g10,g11,g16,g17,g18,f1,AG,hgp,pld,Dw,pc3,hq4,d5,k0,k1,e1,hal,d6,hwj]
             exact ⟨z - 1,by omega,j+1,a',by omega,by rw [hsn,← List.append_assoc,← Kb]; exact hD6,rfl,rfl⟩
       · have f1:((j:Int) < (y.parts.length:Int))=False:=eq_false (by omega)
         simp only [go_sem,AD,AA,AC,AB,KB_n,KB_x,Nat.reduceBEq,Nat.reduceAdd,Nat.reduceLT,Nat.reduceLeDiff,Nat.reduceEqDiff,reduceIte,Int.reduceEq,reduceCtorEq,g1,g3,g9,g10,g11,g16,g17,g18,f1,hw1]
         rw [show y.parts.take j=y.parts from List.take_of_length_le (by omega),← Ji hy] at H
         exact ⟨x - 1,by omega,i+1,a,by omega,H,rfl,rfl⟩
     · simp only [go_sem,AD,AA,AC,AB,KB_n,KB_x,Nat.reduceBEq,Nat.reduceAdd,Nat.reduceLT,Nat.reduceLeDiff,Nat.reduceEqDiff,reduceIte,Int.reduceEq,reduceCtorEq,g1,g3,g9,g10,g11]
       exact ⟨0,a,by omega,by simpa using H3.dropB,rfl,rfl⟩
   · have h1:((i:Int) < (n.items.length:Int))=False:=eq_false (by omega)
     rw [List.take_of_length_le (by omega)] at H
     obtain ⟨a',q',d',t',H',n'⟩:=H.pub 0 rfl
     have dA:pubA q a=some (a',q'):=by
      rw [Ju (H.rows (i:=0) rfl)]; exact d'
     simp only [go_sem,AD,AA,AC,AB,KB_n,KB_x,Nat.reduceBEq,Nat.reduceAdd,Nat.reduceLT,Nat.reduceLeDiff,Nat.reduceEqDiff,reduceIte,Int.reduceEq,reduceCtorEq,g3,g9,g10,g11,h1,dA]
     refine AL H'.over ?_ ?_
     · simp only [BE]; exact t'.refs (Fa _)
     · simp only [BE,wkZ,t'.wk (IX _)]
 · simp only [go_sem,AD,AA,AC,AB,KB_n,KB_x,Nat.reduceBEq,Nat.reduceAdd,Nat.reduceLT,Nat.reduceLeDiff,Nat.reduceEqDiff,reduceIte,Int.reduceEq,reduceCtorEq]
   exact ⟨0,.nsl,by omega,H1.addFull 1 9 true .nil,rfl,rfl⟩

def RN (t0 Tb id:Nat) (xs:List (List Nat)) (C:Nat→St→Prop) (q:St):Prop:=∃ a,q.box? id=some (.cells Tb [a])∧RowH t0 q ⟨1,9,a,xs.map .s,true⟩∧(∀ k,A7 a=some k→C k q)∧(A7 a≠none∨(a=.nsl∧xs=[]))
section
variable {t0 Tb id h:Nat} {xs:List (List Nat)} {C:Nat→St→Prop} {q q' s:St} {O:Nat→Prop}
theorem RN.stab (hC:TokSafe h C) (r:RN t0 Tb id xs C q) (hid:id < h) (hO:¬ O id) {hh:Nat} (hh1:h≤hh) (f:Fq O hh q q'):RN t0 Tb id xs C q':=by
 obtain ⟨a,h1,h2,h3,h4⟩:=r
 refine ⟨a,by rw [f.box id (by omega) hO]; exact h1,?_,fun k hk=>hC.mono k q _ (h3 k hk) f.lo,h4⟩
 exact h2.mono f.tok.1 fun k hk=>f.tok.2 k (h2.tok_lt hk)
theorem RN.enter (r:RN t0 Tb id xs C q):RN t0 Tb id xs (Cin h C q) q.enter:=by
 obtain ⟨a,h1,h2,h3,h4⟩:=r
 exact ⟨a,h1,h2.mono (Nat.le_refl _) fun _ _=>rfl,fun k hk=>.inl ⟨h3 k hk,h2.tok_lt hk⟩,h4⟩
theorem RN.leave (hC:TokSafe h C) (r:RN t0 Tb id xs (Cin h C s) q) (hid:id < s.nb) (hs:h≤s.nb) (hn:s.nb≤q.nb) (ht:s.nt≤q.nt) (hw:Wf q) {v:AV} (hv:v.refs=false):RN t0 Tb id xs C (Am.leave s q v):=by
 obtain ⟨a,h1,h2,h3,h5⟩:=r
 refine ⟨a,by rw [Dg hw hn (by omega)]; exact h1,?_,fun k hk=>(J9 hC hw hs hn ht hv (h2.tok_lt hk) (h3 k hk)).1,h5⟩
 rcases h2 with h2 | ⟨k,v',t,h,k1,k2,k3,k4⟩
 · exact .inl h2
 · simp only at h; subst h
   obtain ⟨_,z2,z3⟩:=J9 hC hw hs hn ht hv k2 (h3 k rfl)
   exact .inr ⟨k,v',t,rfl,k1,z2,by rw [z3]; exact k3,k4⟩
end
theorem UF:∀ L:List (List Nat),Ey (L.map AV.s) (L.map AV.s)=true
 | []=>rfl
 | z::L=>by simp [List.map_cons,Ey,beqA,UF L,Gq]
theorem PI {t0:Nat} {q:St} {a:AV} {xs:List (List Nat)} {T:Nat} {fr:Bool} (h:RowH t0 q ⟨1,T,a,xs.map .s,fr⟩):still a=true:=by
 rcases h with (⟨h,_⟩ | ⟨h,_⟩ | h | h) | ⟨k,v,t,h,_⟩<;>simp only at h<;>rw [h]<;>simp [still,beqA,UF]
theorem RZ {t0:Nat} {q:St} {a:AV} {xs:List AV} {es T:Nat} {fr:Bool} (h:RowH t0 q ⟨es,T,a,xs,fr⟩) {k:Nat} (hk:A7 a=some k):a.refs=true:=by
 rcases h with h | ⟨k',v,t,h,_⟩
 · rw [FB h] at hk; cases hk
 · simp only at h; rw [h]; rfl
abbrev nA:C:=subC DP.body [1,1,0,1,0,0]
abbrev nC:C:=subC DP.body [1,1,0,1,0,1]
theorem UG {s:St} {L:List (Nat×IN)} {F:IN→List (List Nat)} {f ob fb:Nat} {O:Nat→Prop} {k1:Nat} {e:Tr} (hx:ob < k1) (hy:fb < k1) (hne:ob≠fb) (hs:s.nb≤ob) (hs2:s.nb≤fb) (g3:e.get 3=.p fb 0) (g5:e.get 5=.p ob 0)
    (hF:∀ x∈L,∀ q,Wf q→(lim prog).call f [.agg x.2.cells] q=some (tx (F x.2),q)) (hsz:(L.flatMap fun x=>F x.2).length < 2^36) (hO:∀ j,O j→j < k1∧j≠ob∧j≠fb) (hO2:∀ j,O j→s.nb≤j) :
    BodyG prog O s (k1+1) (k1+1) (.yld k1) (alV L) (fun C j q=>q.box? k1=some (.loop 0 none e [10,11] nA nC)∧q.box? fb=some (.cells 39 [.fn f []])∧RN s.nt 26 ob ((L.take j).flatMap fun x=>F x.2) C q) (fun _=>False) where
 stab:=fun C j q q' hC ⟨h1,h2,h3⟩ fq=>⟨by rw [fq.box _ (by omega) fun h=>by have:=(hO _ h).1; omega]; exact h1,by rw [fq.box _ (by omega) fun h=>(hO _ h).2.2 rfl]; exact h2,h3.stab hC (by omega) (fun h=>(hO _ h).2.1 rfl) (Nat.le_refl _) fq⟩
 enter:=fun C j q _ ⟨h1,h2,h3⟩ _=>⟨h1,h2,h3.enter⟩
 leave:=fun C j s q v hC ⟨h1,h2,h3⟩ hs hn ht hw hv=>⟨by rw [Dg hw hn (by omega)]; exact h1,by rw [Dg hw hn (by omega)]; exact h2,h3.leave hC (by omega) hs hn ht hw hv⟩
 stabR:=fun q q' h _=>h.elim
 leaveR:=fun s q v h _ _ _ _ _=>h.elim
 step:=by
  intro C j hj q hC ⟨hk,hfb,hrn⟩ hov hw hh
  have hj':j < L.length:=by simpa [alV] using hj
  obtain ⟨x,hx'⟩:∃ x,L[j]? = some x:=⟨_,List.getElem?_eq_getElem hj'⟩
  have hxm:=List.mem_of_getElem? hx'
  have hLj:(alV L)[j]=[.i .i64 (x.1:Nat),.agg x.2.cells]:=by
   rw [List.getElem?_eq_getElem hj'] at hx'
   simp only [alV,List.getElem_map]
   rw [Option.some.inj hx']
  have htk:(L.take (j+1)).flatMap (fun x=>F x.2)=((L.take j).flatMap fun x=>F x.2)++F x.2:=by
   rw [List.getElem?_eq_some_iff] at hx'
   obtain ⟨_,rfl⟩:=hx'
   rw [List.take_succ_eq_append_getElem hj',List.flatMap_append]
   simp
  have hszj:((L.take j).flatMap (fun x=>F x.2)++F x.2).length < 2^36:=by
   rw [← htk]
   have:(L.flatMap fun x=>F x.2)=((L.take (j+1)).flatMap fun x=>F x.2)++((L.drop (j+1)).flatMap fun x=>F x.2):=by
    rw [← List.flatMap_append,List.take_append_drop]
   rw [this,List.length_append] at hsz
   omega
  rw [List.length_append] at hszj
  rw [hLj]
  obtain ⟨q0,st0,w0,nb0,nt0,bx0n,bx0,ov0,fr0⟩:=RI (q:=q) hw (T:=25) (m:=4) (z:=zI) (v:=.agg x.2.cells) rfl ⟨nc4 _,no4 _⟩ (OG x.2)
  obtain ⟨q1,hq1⟩:∃ q1,q0.setBox k1 (.loop 1 none e [10,11] nA nC)=q1:=⟨_,rfl⟩
  have w1:Wf q1:=by rw [← hq1]; exact w0.setBox _ _
  have nb1:q1.nb=q.nb+1∧q1.nt=q.nt:=by rw [← hq1]; exact ⟨nb0,nt0⟩
  have bx1:∀ i,q1.box? i=if i=k1 then some (.loop 1 none e [10,11] nA nC) else q0.box? i:=fun i=>by rw [← hq1]; exact setBox_box? w0.b (by omega) i
  have ov0:=ov0 s hov
  have ov1:Over s q1:=by rw [← hq1]; exact Over.setBox ov0 (by omega) (by omega) _
  have b1k:=bx1 k1
  rw [if_pos rfl] at b1k
  have fr1:Fq (fun _=>False) k1 q q1:=by
   have f3:Fq (fun _=>False) k1 q0 q1:=by rw [← hq1]; exact Fq.setBox w0 (by omega) (.inl (Nat.le_refl _)) (by omega) _
   exact (fr0 _ k1 (by omega)).trans f3
  have b1f:q1.box? fb=some (.cells 39 [.fn f []]):=by rw [bx1,if_neg (by omega),bx0 _ (by omega)]; exact hfb
  have hrn1:=hrn.stab (hC.weaken (by omega:k1≤k1+1)) hx (fun h=>h) (Nat.le_refl _) fr1
  obtain ⟨a,ha1,ha2,ha3,ha4⟩:=hrn1
  have lda:=Er (s:=q1) (v:=a) (off:=0) ha1 rfl
  have ldf:=Er (s:=q1) (v:=.fn f []) (off:=0) b1f rfl
  have b1n:q1.box? q.nb=some (.cells 25 (AV.agg x.2.cells).cells):=by rw [bx1,if_neg (by omega)]; exact bx0n
  have ldx:ldA q1 true 4 (.p q.nb 0)=some (.agg x.2.cells):=by
   simp only [ldA,St.cells?,b1n]; rfl
  have hcall:Ej (lim prog) (.fn f []) [.agg x.2.cells] q1=some (tx (F x.2),q1):=hF x hxm q1 w1
  have hlr:ldR q1 (some a)=some (a,q1):=by
   rcases ha2 with (⟨h,_⟩ | ⟨h,_⟩ | h | h) | ⟨k,v,t,h,_⟩<;>simp only at h<;>rw [h]<;>rfl
  have hlq:ldQ (some a)=true:=by
   rcases ha2 with (⟨h,_⟩ | ⟨h,_⟩ | h | h) | ⟨k,v,t,h,_⟩<;>simp only at h<;>rw [h]<;>rfl
  have hkO:¬ O k1:=fun h=>by have:=(hO _ h).1; omega
  obtain ⟨rest,H,hrest⟩:=TX w1 ov1 [(ob,.cells 26 [a]),(fb,.cells 39 [.fn f []]),(k1,.loop 1 none e [10,11] nA nC)] (by
   intro p hp
   simp only [List.mem_cons,List.not_mem_nil,or_false] at hp
   rcases hp with rfl | rfl | rfl
   · exact ⟨ha1,hs⟩
   · exact ⟨b1f,hs2⟩
   · exact ⟨b1k,by simp only; omega⟩) (by simp; omega)
  have H:=H.addRow ha2
  obtain ⟨a',q2,d2,H2,n2,ha5⟩:∃ a' q2,appA q1 1 9 a (tx (F x.2))=some (a',q2)∧Hp s q2 ⟨q1.lo,q1.nb,q1.nt⟩ [⟨1,9,a',((L.take j).flatMap (fun x=>F x.2)++F x.2).map .s,true⟩] ([(ob,.cells 26 [a]),(fb,.cells 39 [.fn f []]),(k1,.loop 1 none e [10,11] nA nC)]++rest)∧q2.nb=q1.nb∧(A7 a'≠none∨(a'=.nsl∧(L.take j).flatMap (fun x=>F x.2)++F x.2=[])):=by
   by_cases he:F x.2=[]
   · refine ⟨a,q1,Qq (H.rows (i:=0) rfl) rfl (by rw [he]; rfl),?_,rfl,?_⟩
     · rw [he,List.append_nil]; exact H
     · rw [he,List.append_nil]; exact ha4
   · obtain ⟨a',q2,d2,H2,n2,h5⟩:=H.app 0 (y:=tx (F x.2)) (ys:=(F x.2).map .s) rfl rfl (by rw [List.length_map,List.length_map]; omega)
     refine ⟨a',q2,d2,?_,n2,.inl (h5 (by simpa using he)).1⟩
     rw [← Kb]
     exact H2
  have rc:=H2.rcells 0 rfl
  obtain ⟨q3,d3,H3,n3,lo3⟩:=H2.st 0 (off:=0) (v:=a') rfl (by simp) ⟨rc.1,rc.2.1⟩
  simp only [List.cons_append,List.nil_append,List.set_cons_zero] at H3
  have H5:=H3.setBox (i:=2) rfl (.loop 0 none e [10,11] nA nC)
  simp only [List.set_cons_zero,List.set_cons_succ] at H5
  refine JC ?_
  refine N5 (t:=(e.set 10 10 (.i .i64 (x.1:Nat))).set 10 11 (.agg x.2.cells)) hk rfl ?_
  simp only [nA,DP,subC,go_sem,AD,AA,AC,AB,KB_n,KB_x,Nat.reduceBEq,Nat.reduceAdd,Nat.reduceLT,Nat.reduceLeDiff,Nat.reduceEqDiff,reduceIte,Int.reduceEq,reduceCtorEq,st0]
  refine ⟨_,_,_,_,by rw [bx0 k1 (by omega)]; exact hk,?_⟩
  rw [hq1]
  simp only [nC,DP,subC,go_sem,AD,AA,AC,AB,KB_n,KB_x,Nat.reduceBEq,Nat.reduceAdd,Nat.reduceLT,Nat.reduceLeDiff,Nat.reduceEqDiff,reduceIte,Int.reduceEq,reduceCtorEq]
  refine JS rfl ?_
  simp only [go_sem,AD,AA,AC,AB,KB_n,KB_x,Nat.reduceBEq,Nat.reduceAdd,Nat.reduceLT,Nat.reduceLeDiff,Nat.reduceEqDiff,reduceIte,Int.reduceEq,reduceCtorEq,g3,g5,lda,hlr,ldf,ldx,DS,hcall,d2,d3]
  refine ⟨hlq,rfl,?_⟩
  refine Mz rfl (by simp only [go_sem,AD,AA,AC,AB,KB_n,KB_x,Nat.reduceBEq,Nat.reduceAdd,Nat.reduceLT,Nat.reduceLeDiff,Nat.reduceEqDiff,reduceIte,Int.reduceEq,reduceCtorEq,g5]) (PI ha2) ⟨⟨_,rfl,lda⟩,⟨_,rfl,lda⟩,⟨_,rfl,lda⟩,⟨_,rfl,lda⟩,⟨_,rfl,lda⟩,⟨_,rfl,lda⟩,trivial⟩ (JT ?_)
  simp only [KB_n]
  have nt3:q1.nt≤q3.nt:=H3.nt
  have z1:k1 < q3.nb:=by omega
  have z2:s.nb≤k1:=by omega
  have z3:q.nb≤q3.nb:=by omega
  have z4:q.nt≤q3.nt:=by omega
  have z5:q3.box? k1=some (.loop 1 none e [10,11] nA nC):=(H3.box (i:=2) rfl).1
  refine Ic z5 z1 H3.wf H3.over z2 z3 z4 hkO (fun i hi hlt=>?_) (fun _=>⟨(H5.box (i:=2) rfl).1,(H5.box (i:=1) rfl).1,⟨a',(H5.box (i:=0) rfl).1,by rw [htk]; exact H5.rows (i:=0) rfl,fun k hk=>?_,by rw [htk]; exact ha5⟩⟩) (fun hh=>by simp at hh) (fun i hh=>by simp at hh)
  · have h1:i≠k1:=by
     rintro rfl
     rcases hi with hi | hi
     · exact hkO hi
     · omega
    have h2:i≠ob∧i≠fb:=by
     rcases hi with hi | hi
     · exact (hO _ hi).2
     · omega
    rw [Hp.keep (M:=[_,_,_]) hrest w1 H3 (by rcases hi with hi | hi; exact hO2 _ hi; omega) (by omega) (fun p hp=>by
     simp only [List.mem_cons,List.not_mem_nil,or_false] at hp
     rcases hp with rfl | rfl | rfl<;>simp only<;>omega),bx1,if_neg h1,bx0 i hlt]
  · have h1:=lo3 (RZ (H2.rows (i:=0) rfl) hk)
    refine hC.low k _ ?_
    show q3.lo < k1+1
    omega
theorem PJ {args:List AV} {s:St}:(lim prog).call BI args s=Ig args s:=NL F3 rfl
theorem PK {args:List AV} {s:St}:(lim prog).call A4 args s=FH args s:=NL FL rfl
def OH (s s':St) (v:AV) (L:List (List Nat)):Prop:=∃ q,Over s q∧Wf q∧s'={ q with lo:=min s.lo q.lo }∧((v=.nsl∧L=[])∨∃ id Z,v=.bl id 1 0 L.length (L.length+Z.length,false)∧q.box? id=some (.row 9 ((L++Z).map .s) false 0)∧s.nb≤id∧id < q.nb)
theorem UH {s s':St} (h:Over s s') (hw:Wf s'):OH s { s' with lo:=min s.lo s'.lo } .nsl []:=⟨s',h,hw,rfl,.inl ⟨rfl,rfl⟩⟩
def LJ (L:List (List Nat)):List (List Nat):=Ec (ET L)
theorem SV:∀ l:List (List UInt8),(Go.Lib.compact l).length≤l.length:=by
 intro l
 unfold Go.Lib.compact Go.Lib.compactUpTo
 rw [List.length_map]
 have:=List.length_filter_le (Go.Lib.keeps l.toArray) (List.range l.length)
 rwa [List.length_range] at this
theorem Lv (L:List (List Nat)):(LJ L).length≤L.length:=by
 unfold LJ Ec
 rw [List.length_map]
 have:=SV ((ET L).map u8s)
 rw [List.length_map,Ie] at this
 exact this
theorem Ra (n:IN) (ho:n.Ok) (hb:nodesI n < 2^61) (F:IN→List (List Nat)) (f:Nat) (hF:∀ x∈allL n 0,∀ q,Wf q→(lim prog).call f [.agg x.2.cells] q=some (tx (F x.2),q)) (hsz:((allL n 0).flatMap fun x=>F x.2).length < 2^36) (s:St) (hw:Wf s) :
    ∃ v s',(lim prog).call JI [.agg n.cells,.fn f []] s=some (v,s')∧OH s s' v (LJ ((allL n 0).flatMap fun x=>F x.2)):=by
 refine fn_K SR rfl rfl rfl (by rfl) ?_
 have hz0:wkZ DP.cin [.agg n.cells,.fn f []]=[.agg n.cells,.fn f []]:=by simp [DP,wkZ,wk,IN.cells,itx]
 rw [hz0]
 have e0:s.enter.nb=s.nb:=rfl
 have H3:=(((Hp.begin hw).new (.cells 25 n.cells)).new (.cells 39 [.fn f []])).new (.cells 26 [.nsl])
 have e1:(s.enter.new (.cells 25 n.cells)).nb=s.nb+1:=rfl
 have e2:((s.enter.new (.cells 25 n.cells)).new (.cells 39 [.fn f []])).nb=s.nb+2:=rfl
 obtain ⟨q3,hq3⟩:∃ q3,((s.enter.new (.cells 25 n.cells)).new (.cells 39 [.fn f []])).new (.cells 26 [.nsl])=q3:=⟨_,rfl⟩
 have nb3:q3.nb=s.nb+3:=by rw [← hq3]; rfl
 rw [hq3,e2,e1,e0] at H3
 have c1:(AV.fn f []).cells=[.fn f []]:=rfl
 have lw:=H3.ldw (m:=4) 2 rfl rfl
 obtain ⟨q5,d5,w5,nb5,nt5,bl5,bt5,bx5,ov5,fq5⟩:=RY (n:=n) (d:=0) H3.wf
 have ov5:=ov5 s H3.over
 simp only [Int.natCast_zero] at d5
 simp only [DP,go_sem,AD,AA,AC,AB,KB_n,KB_x,Nat.reduceBEq,Nat.reduceAdd,Nat.reduceLT,Nat.reduceLeDiff,Nat.reduceEqDiff,reduceIte,Int.reduceEq,reduceCtorEq,nc4,c1,List.length_cons,List.length_nil,hq3,e0,e1,e2,lw,DS,d5]
 refine VU (g:=DL) (caps:=[.p (q3.nb+1) 0,.p q3.nb 0]) (by simp only [go_sem,AD,AA,AC,AB,KB_n,KB_x,Nat.reduceBEq,Nat.reduceAdd,Nat.reduceLT,Nat.reduceLeDiff,Nat.reduceEqDiff,reduceIte,Int.reduceEq,reduceCtorEq]) fun e' he'=>?_
 have z3:e'.get 3=.p (s.nb+1) 0:=by rw [he']; simp only [go_sem,AD,AA,AC,AB,KB_n,KB_x,Nat.reduceBEq,Nat.reduceAdd,Nat.reduceLT,Nat.reduceLeDiff,Nat.reduceEqDiff,reduceIte,Int.reduceEq,reduceCtorEq]
 have z5:e'.get 5=.p (s.nb+2) 0:=by rw [he']; simp only [go_sem,AD,AA,AC,AB,KB_n,KB_x,Nat.reduceBEq,Nat.reduceAdd,Nat.reduceLT,Nat.reduceLeDiff,Nat.reduceEqDiff,reduceIte,Int.reduceEq,reduceCtorEq]
 clear he'
 obtain ⟨q6,hq6⟩:∃ q6,q5.new (.loop 0 none e' [10,11] nA nC)=q6:=⟨_,rfl⟩
 have w6:Wf q6:=by rw [← hq6]; exact w5.new _
 have nb6:q6.nb=q5.nb+1:=by rw [← hq6]; rfl
 have ov6:Over s q6:=by rw [← hq6]; exact ov5.new _
 have bx6:∀ i,i < q5.nb→q6.box? i=q5.box? i:=fun i hi=>by rw [← hq6]; exact Co hi
 have bk6:q6.box? q5.nb=some (.loop 0 none e' [10,11] nA nC):=by rw [← hq6]; exact BW q5 _
 have B:=UG (s:=s) (L:=allL n 0) (F:=F) (f:=f) (ob:=s.nb+2) (fb:=s.nb+1) (k1:=q5.nb) (e:=e') (O:=fun j=>j=q3.nb+1∨j=q3.nb) (by omega) (by omega) (by omega) (by omega) (by omega) z3 z5 hF hsz (fun j hj=>by omega) (fun j hj=>by omega)
 have b0:=(H3.box (i:=0) rfl).1
 have b1:=(H3.box (i:=1) rfl).1
 simp only at b0 b1
 obtain ⟨q7,d7,ov7,w7,nb7,nt7,hres7⟩:=QM n ho 0 (by omega) (s:=q6) (xb:=q3.nb+1) (lb:=q3.nb) (by rw [bx6 _ (by omega)]; exact bt5) (by rw [bx6 _ (by omega)]; exact bl5) (by omega) (by omega)
  s (q5.nb+1) (q5.nb+1) q5.nb _ _ (C0 (q5.nb+1) 0) (C0.safe _ _) (Nat.le_refl _) B ⟨bk6,by rw [bx6 _ (by omega),bx5 _ (by omega)]; exact b1,.nsl,by rw [bx6 _ (by omega),bx5 _ (by omega)]; exact b0,.inl .nil,(fun k hk=>by simp [A7] at hk),.inr ⟨rfl,rfl⟩⟩ ov6 w6 (by omega) (by omega)
 rw [← hq6] at d7
 rcases hres7 with ⟨hk7,_,hrn⟩ | h
 case inr=>exact h.elim
 refine ⟨_,q7,d7,_,_,_,_,_,_,hk7,by decide,?_⟩
 have hlen:(alV (allL n 0)).length=(allL n 0).length:=by simp [alV]
 rw [hlen,List.take_length] at hrn
 obtain ⟨M,hM⟩:∃ M,((allL n 0).flatMap fun x=>F x.2)=M:=⟨_,rfl⟩
 rw [hM] at hrn hsz ⊢
 have fq7:Fq (fun _=>False) q5.nb q7 (q7.setBox q5.nb .used):=Fq.setBox w7 (by omega) (.inl (Nat.le_refl _)) (by omega) _
 obtain ⟨q8,hq8⟩:∃ q8,q7.setBox q5.nb .used=q8:=⟨_,rfl⟩
 rw [hq8] at fq7
 have w8:Wf q8:=by rw [← hq8]; exact w7.setBox _ _
 have ov8:Over s q8:=by rw [← hq8]; exact Over.setBox ov7 (by omega) (by omega) _
 obtain ⟨a,k1,k2,_,k4⟩:=hrn
 have k1:q8.box? (s.nb+2)=some (.cells 26 [a]):=by rw [fq7.box _ (by omega) (fun h=>h)]; exact k1
 have k2:=k2.mono fq7.tok.1 fun k hk=>fq7.tok.2 k (k2.tok_lt hk)
 obtain ⟨rest,H8,_⟩:=TX w8 ov8 [(s.nb+2,.cells 26 [a])] (by
  intro p hp
  simp only [List.mem_cons,List.not_mem_nil,or_false] at hp
  subst hp
  exact ⟨k1,by simp only; omega⟩) (by simp)
 have H8:=H8.addRow k2
 rcases k4 with k4 | ⟨rfl,hnil⟩
 case inr =>
  have hth:GE q8 (.p (s.nb+2) 0)=some (.p (s.nb+2) 0,q8):=by simp [GE,k1]
  have la:=Er (s:=q8) (v:=.nsl) (off:=0) k1 rfl
  have hs:(lim prog).call BI [.nsl] q8=some (.tup [],q8):=PJ.trans rfl
  have hcm:(lim prog).call A4 [.nsl] q8=some (.nsl,q8):=PK.trans rfl
  simp only [hq8,go_sem,AD,AA,AC,AB,KB_n,KB_x,Nat.reduceBEq,Nat.reduceAdd,Nat.reduceLT,Nat.reduceLeDiff,Nat.reduceEqDiff,reduceIte,Int.reduceEq,reduceCtorEq,z5,hth,la,hs,hcm]
  have hon:LJ M=[]:=by rw [hnil]; simp [LJ,ET,Ec,Go.Lib.compact,Go.Lib.compactUpTo]
  rw [hon]
  exact UH ov8 w8
 obtain ⟨q9,d9,H9,n9⟩:=H8.thaw 0 rfl k4 [] (by simp) (by simp)
 simp only [List.length_map,Nat.mul_one,P1,List.cons_append,List.nil_append] at d9 H9
 obtain ⟨v9,hv9⟩:∃ v9,AV.bl q8.nb 1 0 M.length (M.length,false)=v9:=⟨_,rfl⟩
 have H10:=((H9.setBox (i:=1) rfl (.cells 26 [v9])).esc (i:=1) rfl v9).1
 obtain ⟨q10,hq10⟩:∃ q10,Am.esc (q9.setBox (s.nb+2) (.cells 26 [v9])) (s.nb+2) v9=q10:=⟨_,rfl⟩
 rw [hq10] at H10
 simp only [List.set_cons_zero,List.set_cons_succ] at H10
 have hth:GE q8 (.p (s.nb+2) 0)=some (.p (s.nb+2) 0,q10):=by
  obtain ⟨k,v,t,ha,_⟩:∃ k v t,a=.sl 1 (M.map .s) (.tok k v)∧t=(0:Nat):=by
   rcases k2 with h | ⟨k,v,t,h,_⟩
   · exact absurd (FB h) k4
   · exact ⟨k,v,0,h,rfl⟩
  subst ha
  have d9':Pw q8 (.sl 1 (M.map .s) (.tok k v))=some (v9,q9):=by rw [← hv9]; exact d9
  simp only [GE,k1,List.getElem?_cons_zero,d9',List.set_cons_zero,hq10]
 have la:=H10.ld 1 (off:=0) (v:=v9) rfl rfl
 have hM62:M.length < 4611686018427387904:=by omega
 obtain ⟨q11,d11,H11,n11⟩:=H10.sort 0 rfl hM62 (M.length,false)
 have hs:(lim prog).call BI [v9] q10=some (.tup [],q11):=by rw [← hv9]; exact PJ.trans d11
 simp only [List.set_cons_zero] at H11
 have hth2:GE q11 (.p (s.nb+2) 0)=some (.p (s.nb+2) 0,q11):=by
  have hbx:=(H11.box (i:=1) rfl).1
  simp only at hbx
  rw [← hv9] at hbx
  simp [GE,hbx]
 have la2:=H11.ld 1 (off:=0) (v:=v9) rfl rfl
 obtain ⟨q12,d12,H12,n12⟩:=H11.compact 0 rfl (by rw [Ie]; exact hM62) (by rw [Ie]; exact Lv M) (M.length,false)
 rw [Ie] at d12 H12
 have hcm:(lim prog).call A4 [v9] q11=some (.bl q8.nb 1 0 (Ec (ET M)).length (M.length,false),q12):=by rw [← hv9]; exact PK.trans d12
 have hbx:=(H12.box (i:=0) rfl).1
 simp only at hbx
 have hlv:∀ u,ldR u (some v9)=some (v9,u):=fun u=>by rw [← hv9]; rfl
 have hpv9:∀ u,Am.pub u v9=some (v9,u):=fun u=>by rw [← hv9]; rfl
 simp only [hq8,go_sem,AD,AA,AC,AB,KB_n,KB_x,Nat.reduceBEq,Nat.reduceAdd,Nat.reduceLT,Nat.reduceLeDiff,Nat.reduceEqDiff,reduceIte,Int.reduceEq,reduceCtorEq,z5,hth,la,hlv,hpv9,hs,hth2,la2,hcm]
 have hcl:(Ec (ET M)).length≤M.length:=Lv M
 refine ⟨q12,H12.over,H12.wf,rfl,.inr ⟨q8.nb,List.replicate (M.length - (Ec (ET M)).length) [],?_,hbx,ov8.nb,?_⟩⟩
 · rw [List.length_replicate]
   show AV.bl q8.nb 1 0 (Ec (ET M)).length (M.length,false)=.bl q8.nb 1 0 (Ec (ET M)).length ((Ec (ET M)).length+(M.length - (Ec (ET M)).length),false)
   rw [show (Ec (ET M)).length+(M.length - (Ec (ET M)).length)=M.length by omega]
 have:=(H12.box (i:=0) rfl).2.2
 exact this
end Go.Proofs.YtmnbfgfgjmmhfaaGreatDoor
