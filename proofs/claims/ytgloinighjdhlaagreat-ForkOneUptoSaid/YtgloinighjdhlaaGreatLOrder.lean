/-
  The abstract machine's functions are the dump's. By program.
-/
import Derived.Test.YtgloinighjdhlaaGreatRows
import Derived.Test.YtgloinighjdhlaaGreatAmKeep
import Derived.Test.YtgloinighjdhlaaGreatFns
import Derived.Test.YtgloinighjdhlaaGreatPrims
import Derived.KernelRfl
import Derived.Test.YtgloinighjdhlaaGreatAmDeleg2
import Derived.Laws.RangeAny
set_option linter.all false
set_option linter.unusedVariables false
set_option linter.unusedSimpArgs false
set_option linter.unusedSectionVars false
set_option maxRecDepth 100000
namespace Go.Proofs.YtgloinighjdhlaaGreat
open Go.Proofs.YtgloinighjdhlaaGreat.Am Go.Proofs
def gt:Nat→Option (List AV)
 | _=>none
theorem Gx:compF Tryz.prog gt false false [1000017000,1000019000] Tryz.f4=some AF:=by kernel_rfl
theorem Lk:compF Tryz.prog gt true false [] Tryz.f12=some C9:=by kernel_rfl
theorem Kb:compF Tryz.prog gt true false [] Tryz.f14=some Ck:=by kernel_rfl
theorem Ll:compF Tryz.prog gt true false [] Tryz.f16=some DA:=by kernel_rfl
theorem IM:compF Tryz.prog gt false false [1000006000,1000009000,1000011000] Tryz.f19=some BV:=by kernel_rfl
theorem Iq:compF Tryz.prog gt false false [] Tryz.f20=some A2:=by kernel_rfl
theorem Hv:compF Tryz.prog gt false false [] Tryz.f21=some Bd:=by kernel_rfl
theorem Hw:compF Tryz.prog gt false false [1000005006] Tryz.f22=some Er:=by kernel_rfl
theorem Nj:compF Tryz.prog gt true false [] Tryz.f23=some Dd:=by kernel_rfl
theorem Px:compF Tryz.prog gt false false [] Tryz.f24=some EH:=by kernel_rfl
theorem RQ:compF Tryz.prog gt false false [1000014003] Tryz.f25=some E7:=by kernel_rfl
theorem HR:compF Tryz.prog gt false false [] Tryz.f26=some BE:=by kernel_rfl
theorem Hx:compF Tryz.prog gt false false [1000004000,1000006000,1000008000,1000010000,1000011000] Tryz.f27=some BN:=by kernel_rfl
theorem JI:compF Tryz.prog gt true false [1000009011] Tryz.f29=some BR:=by kernel_rfl
theorem Nk:compF Tryz.prog gt false false [] Tryz.f31=some D7:=by kernel_rfl
theorem Nl:compF Tryz.prog gt false false [] Tryz.f32=some De:=by kernel_rfl
theorem Ei:compF Tryz.prog gt false false [] Tryz.f34=some BO:=by kernel_rfl
theorem IP:compF Tryz.prog gt false false [] Tryz.f38=some A7:=by kernel_rfl
theorem JJ:compF Tryz.prog gt false false [] Tryz.f40=some Bn:=by kernel_rfl
theorem JK:compF Tryz.prog gt false false [] Tryz.f41=some DI:=by kernel_rfl
theorem Ir:compF Tryz.prog gt false false [] Tryz.f43=some BF:=by kernel_rfl
theorem Kc:compF Tryz.prog gt false false [] Tryz.f44=some Df:=by kernel_rfl
theorem Is:compF Tryz.prog gt false false [] Tryz.f45=some Cx:=by kernel_rfl
theorem JL:compF Tryz.prog gt false false [] Tryz.f47=some Bo:=by kernel_rfl
theorem JM:compF Tryz.prog gt false false [] Tryz.f48=some DJ:=by kernel_rfl
theorem IQ:compF Tryz.prog gt false false [] Tryz.f50=some AO:=by kernel_rfl
theorem IR:compF Tryz.prog gt false false [] Tryz.f51=some Bh:=by kernel_rfl
theorem Py:compF Tryz.prog gt false false [] Tryz.f52=some J8:=by kernel_rfl
theorem Gl:compF Tryz.prog gt false false [] Tryz.f53=some Aa:=by kernel_rfl
theorem Pz:compF Tryz.prog gt false false [1000006000,1000008000] Tryz.f54=some DB:=by kernel_rfl
theorem RR:compF Tryz.prog gt false false [] Tryz.f55=some Fu:=by kernel_rfl
theorem RS:compF Tryz.prog gt false false [] Tryz.f56=some DC:=by kernel_rfl
theorem Dp:compF Tryz.prog gt false false [] Tryz.f57=some AR:=by kernel_rfl
theorem Nm:compF Tryz.prog gt false false [] Tryz.f58=some GU:=by kernel_rfl
theorem Nn:compF Tryz.prog gt true false [3000000005,1000005003] Tryz.f59=some Dg:=by kernel_rfl
theorem Fx:compF Tryz.prog gt false false [] Tryz.f60=some CX:=by kernel_rfl
theorem LN:compF Tryz.prog gt false false [] Tryz.f61=some EI:=by kernel_rfl
theorem It:compF Tryz.prog gt false false [] Tryz.f62=some DD:=by kernel_rfl
theorem Ga:compF Tryz.prog gt false false [1000002003] Tryz.f68=some BZ:=by kernel_rfl
theorem FH:compF Tryz.prog gt false false [] Tryz.f69=some BP:=by kernel_rfl
theorem Iu:compF Tryz.prog gt false false [1000001001] Tryz.f70=some DU:=by kernel_rfl
theorem IS:compF Tryz.prog gt false false [] Tryz.f72=some C5:=by kernel_rfl
theorem DM:compF Tryz.prog gt true false [] Tryz.f73=some AQ:=by kernel_rfl
theorem F2:compF Tryz.prog gt true false [] Tryz.f74=some BA:=by kernel_rfl
theorem F3:compF Tryz.prog gt true false [] Tryz.f75=some BB:=by kernel_rfl
theorem Lm:compF Tryz.prog gt false false [] Tryz.f76=some DE:=by kernel_rfl
theorem F4:compF Tryz.prog gt true false [] Tryz.f77=some BC:=by kernel_rfl
theorem Sd:compF Tryz.prog gt false false [] Tryz.f78=some DK:=by kernel_rfl
theorem RT:compF Tryz.prog gt false false [] Tryz.f79=some D8:=by kernel_rfl
theorem No:compF Tryz.prog gt false false [] Tryz.f80=some CY:=by kernel_rfl
theorem EQ:compF Tryz.prog gt false false [] Tryz.f81=some Ab:=by kernel_rfl
theorem Dz:compF Tryz.prog gt true false [] Tryz.f82=some AG:=by kernel_rfl
theorem FO:compF Tryz.prog gt true false [] Tryz.f83=some AU:=by kernel_rfl
theorem Gm:compF Tryz.prog gt false false [] Tryz.f84=some Bg:=by kernel_rfl
theorem Kd:compF Tryz.prog gt false false [] Tryz.f85=some Dx:=by kernel_rfl
theorem F5:compF Tryz.prog gt true false [] Tryz.f91=some Ce:=by kernel_rfl
theorem EZ:compF Tryz.prog gt false false [] Tryz.f93=some A4:=by kernel_rfl
theorem JN:compF Tryz.prog gt false false [] Tryz.f94=some CS:=by kernel_rfl
theorem RU:compF Tryz.prog gt false false [] Tryz.f95=some A8:=by kernel_rfl
theorem P0:compF Tryz.prog gt false false [] Tryz.f96=some EJ:=by kernel_rfl
theorem P1:compF Tryz.prog gt false false [] Tryz.f97=some EL:=by kernel_rfl
theorem Se:compF Tryz.prog gt false false [] Tryz.f98=some B5:=by kernel_rfl
theorem Uf:compF Tryz.prog gt false false [] Tryz.f99=some GH:=by kernel_rfl
theorem P2:compF Tryz.prog gt false false [] Tryz.f100=some EM:=by kernel_rfl
theorem Ej:compF Tryz.prog gt false false [] Tryz.f101=some Ai:=by kernel_rfl
theorem LO:compF Tryz.prog gt false false [] Tryz.f102=some Ct:=by kernel_rfl
theorem LP:compF Tryz.prog gt false false [] Tryz.f103=some Cu:=by kernel_rfl
theorem Gb:compF Tryz.prog gt false false [] Tryz.f104=some A5:=by kernel_rfl
theorem EA:compF Tryz.prog gt false false [] Tryz.f105=some Ba:=by kernel_rfl
theorem FP:compF Tryz.prog gt false false [] Tryz.f106=some BW:=by kernel_rfl
theorem EB:compF Tryz.prog gt false false [] Tryz.f107=some Bb:=by kernel_rfl
theorem ER:compF Tryz.prog gt true true [] Tryz.f110=some Ag:=by kernel_rfl
theorem Gc:compF Tryz.prog gt false false [] Tryz.f113=some Cy:=by kernel_rfl
theorem Sf:compF Tryz.prog gt false false [] Tryz.f114=some Fe:=by kernel_rfl
theorem RV:compF Tryz.prog gt false false [] Tryz.f115=some Es:=by kernel_rfl
theorem Sg:compF Tryz.prog gt false false [] Tryz.f116=some Ff:=by kernel_rfl
theorem Np:compF Tryz.prog gt false false [] Tryz.f117=some Cz:=by kernel_rfl
theorem Gy:compF Tryz.prog gt false false [] Tryz.f118=some BS:=by kernel_rfl
theorem FL:compF Tryz.prog gt false false [] Tryz.f119=some Ap:=by kernel_rfl
theorem Ew:compF Tryz.prog gt false false [] Tryz.f120=some Bs:=by kernel_rfl
theorem ES:compF Tryz.prog gt false false [] Tryz.f121=some CD:=by kernel_rfl
theorem DN:compF Tryz.prog gt false false [] Tryz.f134=some A6:=by kernel_rfl
theorem P3:compF Tryz.prog gt false false [5000000006] Tryz.f135=some Bp:=by kernel_rfl
theorem IT:compF Tryz.prog gt false false [] Tryz.f136=some Bi:=by kernel_rfl
theorem cW:tabC.All (Rv Tryz.prog gt) :=
 ⟨.inl ⟨rfl,Tryz.f68,[1000002003],false,Tryz.func68,Ga⟩,⟨.inl ⟨rfl,Tryz.f44,[],false,Tryz.func44,Kc⟩,⟨.inl ⟨rfl,Tryz.f29,[1000009011],false,Tryz.func29,JI⟩,⟨.inl ⟨rfl,Tryz.f22,[1000005006],false,Tryz.func22,Hw⟩,⟨.inl ⟨rfl,Tryz.f14,[],false,Tryz.func14,Kb⟩,⟨.inl ⟨rfl,Tryz.f12,[],false,Tryz.func12,Lk⟩,trivial,trivial⟩,⟨.inl ⟨rfl,Tryz.f16,[],false,Tryz.func16,Ll⟩,trivial,trivial⟩⟩,⟨.inl ⟨rfl,Tryz.f25,[1000014003],false,Tryz.func25,RQ⟩,⟨.inl ⟨rfl,Tryz.f23,[],false,Tryz.func23,Nj⟩,trivial,trivial⟩,trivial⟩⟩,⟨.inl ⟨rfl,Tryz.f40,[],false,Tryz.func40,JJ⟩,⟨.inl ⟨rfl,Tryz.f32,[],false,Tryz.func32,Nl⟩,⟨.inl ⟨rfl,Tryz.f31,[],false,Tryz.func31,Nk⟩,trivial,trivial⟩,trivial⟩,⟨.inl ⟨rfl,Tryz.f43,[],false,Tryz.func43,Ir⟩,⟨.inl ⟨rfl,Tryz.f41,[],false,Tryz.func41,JK⟩,trivial,trivial⟩,trivial⟩⟩⟩,⟨.inl ⟨rfl,Tryz.f55,[],false,Tryz.func55,RR⟩,⟨.inl ⟨rfl,Tryz.f48,[],false,Tryz.func48,JM⟩,⟨.inl ⟨rfl,Tryz.f47,[],false,Tryz.func47,JL⟩,⟨.inl ⟨rfl,Tryz.f45,[],false,Tryz.func45,Is⟩,trivial,trivial⟩,trivial⟩,⟨.inl ⟨rfl,Tryz.f53,[],false,Tryz.func53,Gl⟩,⟨.inl ⟨rfl,Tryz.f52,[],false,Tryz.func52,Py⟩,trivial,trivial⟩,trivial⟩⟩,⟨.inl ⟨rfl,Tryz.f58,[],false,Tryz.func58,Nm⟩,⟨.inl ⟨rfl,Tryz.f57,[],false,Tryz.func57,Dp⟩,⟨.inl ⟨rfl,Tryz.f56,[],false,Tryz.func56,RS⟩,trivial,trivial⟩,trivial⟩,⟨.inl ⟨rfl,Tryz.f60,[],false,Tryz.func60,Fx⟩,⟨.inl ⟨rfl,Tryz.f59,[3000000005,1000005003],false,Tryz.func59,Nn⟩,trivial,trivial⟩,trivial⟩⟩⟩⟩,⟨.inr ⟨_,rfl,ET⟩,⟨.inl ⟨rfl,Tryz.f77,[],false,Tryz.func77,F4⟩,⟨.inl ⟨rfl,Tryz.f74,[],false,Tryz.func74,F2⟩,⟨.inl ⟨rfl,Tryz.f70,[1000001001],false,Tryz.func70,Iu⟩,⟨.inl ⟨rfl,Tryz.f69,[],false,Tryz.func69,FH⟩,trivial,trivial⟩,⟨.inl ⟨rfl,Tryz.f73,[],false,Tryz.func73,DM⟩,trivial,trivial⟩⟩,⟨.inl ⟨rfl,Tryz.f76,[],false,Tryz.func76,Lm⟩,⟨.inl ⟨rfl,Tryz.f75,[],false,Tryz.func75,F3⟩,trivial,trivial⟩,trivial⟩⟩,⟨.inl ⟨rfl,Tryz.f83,[],false,Tryz.func83,FO⟩,⟨.inl ⟨rfl,Tryz.f82,[],false,Tryz.func82,Dz⟩,⟨.inl ⟨rfl,Tryz.f81,[],false,Tryz.func81,EQ⟩,trivial,trivial⟩,trivial⟩,⟨.inl ⟨rfl,Tryz.f91,[],false,Tryz.func91,F5⟩,⟨.inl ⟨rfl,Tryz.f84,[],false,Tryz.func84,Gm⟩,trivial,trivial⟩,trivial⟩⟩⟩,⟨.inl ⟨rfl,Tryz.f107,[],false,Tryz.func107,EB⟩,⟨.inl ⟨rfl,Tryz.f104,[],false,Tryz.func104,Gb⟩,⟨.inl ⟨rfl,Tryz.f94,[],false,Tryz.func94,JN⟩,⟨.inl ⟨rfl,Tryz.f93,[],false,Tryz.func93,EZ⟩,trivial,trivial⟩,trivial⟩,⟨.inl ⟨rfl,Tryz.f106,[],false,Tryz.func106,FP⟩,⟨.inl ⟨rfl,Tryz.f105,[],false,Tryz.func105,EA⟩,trivial,trivial⟩,trivial⟩⟩,⟨.inl ⟨rfl,Tryz.f120,[],false,Tryz.func120,Ew⟩,⟨.inl ⟨rfl,Tryz.f113,[],false,Tryz.func113,Gc⟩,⟨.inl ⟨rfl,Tryz.f110,[],true,Tryz.func110,ER⟩,trivial,trivial⟩,trivial⟩,⟨.inl ⟨rfl,Tryz.f134,[],false,Tryz.func134,DN⟩,⟨.inl ⟨rfl,Tryz.f121,[],false,Tryz.func121,ES⟩,trivial,trivial⟩,trivial⟩⟩⟩⟩⟩
theorem cX:∀ (f:Nat) (fn:Fun),progC f=some fn→Rv Tryz.prog gt f fn:=fun f fn h=>PT.all_get cW h
end Go.Proofs.YtgloinighjdhlaaGreat

namespace Go.Proofs.YtgloinighjdhlaaGreat
def inR (m:Nat) (x:Int):Bool:=decide (1≤x)&&decide (x≤m)
theorem OU (f:Nat→Nat):∀ m,(∀ j,j < m→f j=1)→((List.range m).map f).sum=m
 | 0,_=>rfl
 | m+1,h=>by
   rw [List.range_succ,List.map_append,List.sum_append,OU f m (fun j hj=>h j (by omega))]
   simp [h m (by omega)]
theorem bm (m:Nat) (x:Int):((List.range m).map fun j:Nat=>if x=(j:Int)+1 then 1 else 0).sum=if inR m x then 1 else 0:=by
 induction m with
 | zero =>
   have:inR 0 x=false:=by simp [inR]; omega
   simp [this]
 | succ m ih =>
   rw [List.range_succ,List.map_append,List.sum_append,ih]
   simp only [List.map_cons,List.map_nil,List.sum_cons,List.sum_nil,inR]
   by_cases h1:x=(m:Int)+1
   · have a1:¬ (1≤x∧x≤(m:Int)):=by omega
     have a2:1≤x∧x≤((m+1:Nat):Int):=by omega
     simp only [← Bool.decide_and,decide_eq_true_eq]
     rw [if_pos h1,if_neg a1,if_pos a2]; rfl
   · simp only [← Bool.decide_and,decide_eq_true_eq]
     rw [if_neg h1]
     by_cases h2:1≤x∧x≤(m:Int)
     · have a2:1≤x∧x≤((m+1:Nat):Int):=by omega
       rw [if_pos h2,if_pos a2]; rfl
     · have a2:¬ (1≤x∧x≤((m+1:Nat):Int)):=by omega
       rw [if_neg h2,if_neg a2]; rfl
theorem WN (f g:Nat→Nat):∀ l:List Nat,(l.map fun j=>f j+g j).sum=(l.map f).sum+(l.map g).sum
 | []=>rfl
 | a::l=>by simp only [List.map_cons,List.sum_cons,WN f g l]; omega
theorem Qp (m:Nat):∀ F:List Int,((List.range m).map fun j:Nat=>F.count ((j:Int)+1)).sum=F.countP (inR m)
 | []=>by
   simp only [List.count_nil,List.countP_nil]
   induction m with
   | zero=>rfl
   | succ m ih=>rw [List.range_succ,List.map_append,List.sum_append,ih]; rfl
 | x::F=>by
   have h:(fun j:Nat=>(x::F).count ((j:Int)+1))=fun j:Nat=>F.count ((j:Int)+1)+(if x=(j:Int)+1 then 1 else 0):=by
    funext j
    rw [List.count_cons]
    simp only [beq_iff_eq]
   rw [h,WN,Qp m F,bm,List.countP_cons]
theorem M4 {m:Nat} {F:List Int} (h:∀ j,1≤j→j≤m→F.count (j:Int)=1):F.countP (inR m)=m:=by
 rw [← Qp]
 refine OU _ m fun j hj=>?_
 have:=h (j+1) (by omega) (by omega)
 simpa using this
theorem SA {m:Nat} {F:List Int} (h:∀ j,1≤j→j≤m→F.count (j:Int)=1) (hr:∀ x∈F,1≤x∧x≤(m:Int)):F.length=m:=by
 rw [← M4 h]
 exact (List.countP_eq_length.2 fun x hx=>by simp [inR,hr x hx]).symm
theorem UJ {m:Nat} {F:List Int} (h:∀ j,1≤j→j≤m→F.count (j:Int)=1) (hl:F.length=m):∀ x∈F,1≤x∧x≤(m:Int):=by
 have h1:=M4 h
 rw [← hl] at h1
 intro x hx
 have h2:F.countP (inR m)=F.length:=by rw [hl] at h1 ⊢; exact h1
 have:=List.countP_eq_length.1 h2 x hx
 simpa [inR] using this
structure FT where
 known:Bool
 kind:Nat
 names:List (List Nat)
 kids:List Int
 rest:Int
 beside:Int
def flatK (l:List FT):List Int:=(l.map FT.kids).flatten
def cntK (l:List FT) (j:Int):Nat:=(flatK l).count j
def Hz (n:Nat):Nat→List FT→Bool
 | _,[]=>true
 | i,f::l=>(f.kids.all fun k=>decide ((i:Int) < k)&&decide (k < (n:Int)))&&Hz n (i+1) l
def M5 (l:List FT):Bool:=(List.range (l.length - 1)).all fun j=>decide (cntK l ((j:Int)+1)=1)
theorem Eu {n:Nat}:∀ {l:List FT} {i:Nat},Hz n i l=true↔∀ (a:Nat) (f:FT),l[a]? = some f→∀ k∈f.kids,((i+a:Nat):Int) < k∧k < (n:Int)
 | [],i=>by simp [Hz]
 | f :: l,i=>by
   simp only [Hz,Bool.and_eq_true,List.all_eq_true,decide_eq_true_eq,Eu (l:=l)]
   constructor
   · rintro ⟨h1,h2⟩ a g hg k hk
     cases a with
     | zero=>simp only [List.getElem?_cons_zero,Option.some.injEq] at hg; subst hg; exact h1 k hk
     | succ a =>
       have:=h2 a g (by simpa using hg) k hk
       exact ⟨by omega,this.2⟩
   · intro h
     refine ⟨fun k hk=>h 0 f rfl k hk,fun a g hg k hk=>?_⟩
     have:=h (a+1) g (by simpa using hg) k hk
     exact ⟨by omega,this.2⟩
theorem TO {l:List FT}:M5 l=true↔∀ j,1≤j→j≤l.length - 1→cntK l (j:Int)=1:=by
 simp only [M5,List.all_eq_true,List.mem_range,decide_eq_true_eq]
 constructor
 · intro h j h1 h2
   have:=h (j - 1) (by omega)
   rw [show (((j - 1:Nat):Int)+1)=(j:Int) by omega] at this
   exact this
 · intro h j hj
   have:=h (j+1) (by omega) (by omega)
   simpa using this
def F0 (l:List FT) (j:Int):Option Nat:=if cntK l j=1 then l.findIdx? fun f=>f.kids.contains j else none
theorem LD {l:List FT} {j:Int} (h:cntK l j=1):∃ i f,F0 l j=some i∧l[i]? = some f∧j∈f.kids:=by
 have hm:j∈flatK l:=by
  rw [← List.count_pos_iff]
  unfold cntK at h
  omega
 unfold flatK at hm
 rw [List.mem_flatten] at hm
 obtain ⟨ks,hks,hj⟩:=hm
 obtain ⟨f,hf,rfl⟩:=List.mem_map.1 hks
 unfold F0
 rw [if_pos h]
 cases hi:l.findIdx? fun f=>f.kids.contains j with
 | none =>
   rw [List.findIdx?_eq_none_iff] at hi
   have:=hi f hf
   simp [hj] at this
 | some i =>
   rw [List.findIdx?_eq_some_iff_getElem] at hi
   obtain ⟨h1,h2,_⟩:=hi
   exact ⟨i,l[i],rfl,List.getElem?_eq_getElem h1,by simpa using h2⟩
theorem TP {l:List FT} {i:Nat} {f:FT} (h:l[i]? = some f) {k:Int} (hk:k∈f.kids):k∈flatK l:=by
 unfold flatK
 rw [List.mem_flatten]
 exact ⟨f.kids,List.mem_map.2 ⟨f,List.mem_of_getElem? h,rfl⟩,hk⟩
theorem WP {l:List FT} {i i':Nat} {f f':FT} (hii:i≠i') (h:l[i]? = some f) (h':l[i']? = some f') {k:Int} (hk:k∈f.kids) (hk':k∈f'.kids):2≤cntK l k:=by
 have key:∀ {l:List FT} {i i':Nat} {f f':FT},i < i'→l[i]? = some f→l[i']? = some f'→k∈f.kids→k∈f'.kids→2≤cntK l k:=by
  intro l
  induction l with
  | nil=>intro i i' f f' _ h; simp at h
  | cons a l ih =>
    intro i i' f f' hlt h h' hk hk'
    have hc:cntK (a::l) k=a.kids.count k+cntK l k:=by simp [cntK,flatK,List.count_append]
    cases i' with
    | zero=>omega
    | succ i' =>
      cases i with
      | zero =>
        simp only [List.getElem?_cons_zero,Option.some.injEq] at h
        subst h
        have h1:=List.count_pos_iff.2 hk
        have h2:0 < cntK l k:=List.count_pos_iff.2 (TP (by simpa using h') hk')
        omega
      | succ i =>
        have:=ih (i:=i) (i':=i') (by omega) (by simpa using h) (by simpa using h') hk hk'
        omega
 rcases Nat.lt_or_ge i i' with hlt | hge
 · exact key hlt h h' hk hk'
 · exact key (by omega) h' h hk' hk
theorem TQ {l:List FT} {j:Int} (h:cntK l j=1) {i:Nat} {f:FT} (hf:l[i]? = some f) (hj:j∈f.kids):F0 l j=some i:=by
 obtain ⟨i',f',h1,h2,h3⟩:=LD h
 by_cases hii:i=i'
 · rw [h1,hii]
 · have:=WP hii hf h2 hj h3
   omega
def upB (l:List FT):Bool:=(List.range (l.length - 1)).all fun j=>match F0 l ((j:Int)+1) with
 | some n=>decide (n < j+1)
 | none=>false
theorem up_iff {l:List FT}:upB l=true↔∀ j,1≤j→j≤l.length - 1→∃ n,F0 l (j:Int)=some n∧n < j:=by
 simp only [upB,List.all_eq_true,List.mem_range]
 constructor
 · intro h j h1 h2
   have:=h (j - 1) (by omega)
   rw [show (((j - 1:Nat):Int)+1)=(j:Int) by omega] at this
   cases ha:F0 l (j:Int) with
   | none=>rw [ha] at this; cases this
   | some n=>rw [ha] at this; exact ⟨n,rfl,by have:=of_decide_eq_true this; omega⟩
 · intro h j hj
   obtain ⟨n,h1,h2⟩:=h (j+1) (by omega) (by omega)
   rw [show ((j:Int)+1)=((j+1:Nat):Int) by omega,h1]
   simp only [decide_eq_true_eq]
   omega
theorem WR (l:List FT) (hl:l≠[]):(Hz l.length 0 l&&M5 l)=(decide ((flatK l).length=l.length - 1)&&upB l):=by
 have hpos:=List.length_pos_iff.2 hl
 rw [Bool.eq_iff_iff]
 simp only [Bool.and_eq_true,decide_eq_true_eq,Eu,TO,up_iff]
 constructor
 · rintro ⟨hb,ho⟩
   have hr:∀ x∈flatK l,1≤x∧x≤((l.length - 1:Nat):Int):=by
    intro x hx
    unfold flatK at hx
    rw [List.mem_flatten] at hx
    obtain ⟨ks,hks,hj⟩:=hx
    obtain ⟨f,hf,rfl⟩:=List.mem_map.1 hks
    obtain ⟨i,hi,he⟩:=List.mem_iff_getElem.1 hf
    have:=hb i f (by rw [List.getElem?_eq_getElem hi,he]) x hj
    omega
   refine ⟨SA ho hr,fun j h1 h2=>?_⟩
   obtain ⟨i,f,k1,k2,k3⟩:=LD (ho j h1 h2)
   have:=hb i f k2 _ k3
   exact ⟨i,k1,by omega⟩
 · rintro ⟨ht,hu⟩
   have ho:∀ j,1≤j→j≤l.length - 1→cntK l (j:Int)=1:=by
    intro j h1 h2
    obtain ⟨n,k1,_⟩:=hu j h1 h2
    unfold F0 at k1
    split at k1
    · assumption
    · cases k1
   refine ⟨fun a f hf k hk=>?_,ho⟩
   have hr:=UJ ho ht k (TP hf hk)
   obtain ⟨j,rfl⟩:∃ j:Nat,k=(j:Int):=⟨k.toNat,by omega⟩
   have h1:1≤j:=by omega
   have h2:j≤l.length - 1:=by omega
   obtain ⟨n,k1,k2⟩:=hu j h1 h2
   have:=TQ (ho j h1 h2) hf hk
   rw [k1] at this
   cases this
   omega

open Go.Proofs.YtgloinighjdhlaaGreat.Am
abbrev tx (L:List (List Nat)):AV:=.ws false 1 (L.map .s)
theorem AH (k:IntKind) (i:Nat):Cv (.i k (i:Int))=some i:=by simp [Cv]
theorem Dm (s:St) (v:AV):ldA s false 1 (.ep [v] 0 .shut)=some v:=rfl
theorem CN (l:List Nat):(AV.s l).cells=[.s l]:=rfl
theorem FG {i:Nat} (h:i < 2^63):IntKind.i64.wrap (i:Int)=i:=by
 have e1:((i:Int) % 2^64)=i:=by omega
 simp only [IntKind.wrap,IntKind.signed,IntKind.bits,e1]
 rw [if_neg]
 simp; omega
theorem Aj {i:Nat} (h:i+1 < 2^63):IntKind.i64.wrap ((i:Int)+1)=((i+1:Nat):Int):=by
 rw [← FG h]; simp
theorem A3 (n:Nat):Int.ofNat n=(n:Int):=rfl

inductive ND where
 | mk (k:Nat) (t:List Nat) (ns:List (List Nat)) (ks:List ND)
def ND.kind:ND→Nat | .mk k _ _ _=>k
def ND.text:ND→List Nat | .mk _ t _ _=>t
def ND.names:ND→List (List Nat) | .mk _ _ ns _=>ns
def ND.kids:ND→List ND | .mk _ _ _ ks=>ks
mutual
def ND.av:ND→AV
 | .mk k t ns ks=>.agg [.i .u8 (k:Nat),.s t,tx ns,.ws false 4 (ND.avs ks)]
def ND.avs:List ND→List AV
 | []=>[]
 | n::l=>n.av::ND.avs l
end
theorem ND.avs_map:∀ l:List ND,ND.avs l=l.map ND.av
 | []=>by simp [ND.avs]
 | n::l=>by simp only [ND.avs,ND.avs_map l,List.map_cons]
def ND.cells (n:ND):List AV:=[.i .u8 (n.kind:Nat),.s n.text,tx n.names,.ws false 4 (n.kids.map ND.av)]
theorem ND.av_eq (n:ND):n.av=.agg n.cells:=by
 cases n with
 | mk k t ns ks=>simp only [ND.av,ND.avs_map,ND.cells,ND.kind,ND.text,ND.names,ND.kids]
theorem ND.lt {n k:ND} (h:k∈n.kids):SizeOf.sizeOf k < SizeOf.sizeOf n:=by
 cases n with
 | mk a t ns ks =>
   have h:k∈ks:=h
   have:=List.sizeOf_lt_of_mem h
   simp only [ND.mk.sizeOf_spec]
   omega
theorem ND.ind {P:ND→Prop} (h:∀ n,(∀ k∈n.kids,P k)→P n) (n:ND):P n:=by
 have:∀ (m:Nat) (n:ND),SizeOf.sizeOf n < m→P n:=by
  intro m
  induction m with
  | zero=>intro n hn; omega
  | succ m ih =>
    intro n hn
    exact h n fun k hk=>ih k (by have:=ND.lt hk; omega)
 exact this _ n (Nat.lt_succ_self _)
mutual
def nodesN:ND→Nat
 | .mk _ _ _ ks=>1+RE ks
def RE:List ND→Nat
 | []=>0
 | k::ks=>nodesN k+RE ks
end
theorem OZ:∀ l:List ND,RE l=(l.map nodesN).sum
 | []=>by simp [RE]
 | k::l=>by simp only [RE,OZ l,List.map_cons,List.sum_cons]
theorem FE (n:ND):nodesN n=1+(n.kids.map nodesN).sum:=by
 cases n with
 | mk a t ns ks=>simp only [nodesN,OZ,ND.kids]
mutual
def deepN:ND→Nat
 | .mk _ _ _ ks=>W6 ks
def W6:List ND→Nat
 | []=>0
 | k::ks=>max (1+deepN k) (W6 ks)
end
theorem Oa:∀ (l:List ND),W6 l=(l.map fun k=>1+deepN k).foldr max 0
 | []=>by simp [W6]
 | k::l=>by simp only [W6,Oa l,List.map_cons,List.foldr_cons]
theorem Pp (n:ND):deepN n=(n.kids.map fun k=>1+deepN k).foldr max 0:=by
 cases n with
 | mk a t ns ks=>simp only [deepN,Oa,ND.kids]
theorem HQ {α:Type} {f:α→Nat} {l:List α} {a:α} (h:a∈l):f a≤(l.map f).sum:=by
 induction l with
 | nil=>cases h
 | cons b l ih =>
   rw [List.map_cons,List.sum_cons]
   rcases List.mem_cons.1 h with rfl | h
   · omega
   · have:=ih h; omega
theorem NS {α:Type} (f:α→Nat) (l:List α) (i:Nat):((l.take i).map f).sum≤(l.map f).sum:=by
 induction l generalizing i with
 | nil=>simp
 | cons a l ih=>cases i with
   | zero=>simp
   | succ i=>simp only [List.take_succ_cons,List.map_cons,List.sum_cons]; have:=ih i; omega
theorem KY {α:Type} (f:α→Nat) {l:List α} {i:Nat} {a:α} (h:l[i]? = some a):((l.take (i+1)).map f).sum=((l.take i).map f).sum+f a:=by
 rw [List.take_add_one,h]
 simp

attribute [local irreducible] W WO WE WQ WD Tr.get Tr.set
theorem Hu {n:ND} {i:Nat} {k:ND} (h:n.kids[i]? = some k):(n.kids.map ND.av)[i]? = some (.agg k.cells):=by
 rw [List.getElem?_map,h,Option.map_some,ND.av_eq]
theorem Ar (k:ND):k.cells.length=4:=rfl
theorem Pq (k:ND):ones k.cells=true:=rfl
theorem AX (k:ND) (s:St):pubL s k.cells=some (k.cells,s):=rfl
theorem NT (k:ND) (s:St):frzL s k.cells=some (k.cells,s):=rfl
theorem SO:∀ n:ND,n.av.refs=false:=by
 refine ND.ind fun n ih=>?_
 have:∀ l:List ND,(∀ k∈l,k.av.refs=false)→AV.refs.go (l.map ND.av)=false:=by
  intro l
  induction l with
  | nil=>intro _; rfl
  | cons a l il =>
    intro h
    simp only [List.map_cons,AV.refs.go,h a (by simp),il fun k hk=>h k (by simp [hk]),Bool.or_self]
 rw [ND.av_eq]
 simp only [ND.cells,AV.refs,AV.refs.go,this _ ih,Gh,Bool.or_self]
theorem ZH:∀ n:ND,nodesN n < 2^62→∀ s,Wf s→(lim prog).call F8 [.agg n.cells] s=some (.i .i64 (nodesN n:Nat),s):=by
 refine ND.ind fun n ih hb s hw=>?_
 refine fn_W PS rfl rfl ?_
 have H1:=(Hp.begin hw).new (.cells 37 n.cells)
 generalize hq:s.enter.new (.cells 37 n.cells)=q at H1
 generalize hm:s.enter.nb=m at H1
 have l1:=H1.ld 0 (off:=3) (v:=.ws false 4 (n.kids.map ND.av)) rfl rfl
 have hN:=FE n
 have hk:n.kids.length≤(n.kids.map nodesN).sum:=by
  generalize n.kids=l
  induction l with
  | nil=>simp
  | cons a l il=>simp only [List.length_cons,List.map_cons,List.sum_cons]; have:=FE a; omega
 have hc0:(AV.agg n.cells).cells=n.cells:=rfl
 have hz0:wkZ EJ.cin [.agg n.cells]=[.agg n.cells]:=by simp [EJ,wkZ,wk,ND.cells]
 rw [hz0]
 simp only [EJ,go_sem,AD,AA,AC,AB,KB_n,KB_x,Nat.reduceBEq,Nat.reduceAdd,Nat.reduceLT,Nat.reduceLeDiff,Nat.reduceEqDiff,reduceIte,Int.reduceEq,reduceCtorEq,Ar,hq,hm,l1,Nat.zero_add]
 refine Br (fun x e q=>∃ i:Nat,i+x=n.kids.length∧Hp s q s.en [] [(m,.cells 37 n.cells)]∧e.get 1=.p m 0∧e.get 3=.i .i64 ((1+((n.kids.take i).map nodesN).sum:Nat):Int)∧e.get 7=.ws false 4 (n.kids.map ND.av)∧e.get 8=.i .i64 (n.kids.length:Nat)∧e.get 9=.i .i64 (i:Nat)) ?_ n.kids.length _ _ ?_
 · rintro x e q' ⟨i,hi,H,g1,g3,g7,g8,g9⟩
   by_cases h:i < n.kids.length
   · have e1:((i:Int) < (n.kids.length:Int))=True:=eq_true (by omega)
     obtain ⟨k,hk1⟩:∃ k,n.kids[i]? = some k:=⟨_,List.getElem?_eq_getElem h⟩
     have hmem:k∈n.kids:=List.mem_of_getElem? hk1
     have hget:=Hu hk1
     have hle:=HQ (f:=nodesN) hmem
     have hts:=KY nodesN hk1
     have htl:=NS nodesN n.kids (i+1)
     have H2:=H.new (.cells 37 [.i .u8 0,.s [],.nsl,.nsl])
     generalize hq2:q'.new (.cells 37 [.i .u8 0,.s [],.nsl,.nsl])=q2 at H2
     generalize hi2:q'.nb=j2 at H2
     obtain ⟨q3,e3,H3,_⟩:=H2.stw 0 (v:=.agg k.cells) (m:=4) rfl rfl ⟨Ar k,Pq k⟩
     have l3:=H3.ldw 0 (m:=4) rfl rfl
     have hc:=ih k hmem (by omega) q3 H3.wf
     have hsum:IntKind.i64.wrap (((1+((n.kids.take i).map nodesN).sum:Nat):Int)+((nodesN k:Nat):Int))=((1+((n.kids.take (i+1)).map nodesN).sum:Nat):Int):=by
      rw [hts,show ((1+((n.kids.take i).map nodesN).sum:Nat):Int)+((nodesN k:Nat):Int)=((1+(((n.kids.take i).map nodesN).sum+nodesN k):Nat):Int) by omega]
      exact FG (by omega)
     have hw1:=Aj (show i+1 < 2^63 by omega)
     have hld:ldA q' true 4 (.ep k.cells 0 .shut)=some (.agg k.cells):=rfl
     simp only [go_sem,AD,AA,AC,AB,KB_n,KB_x,Nat.reduceBEq,Nat.reduceAdd,Nat.reduceLT,Nat.reduceLeDiff,Nat.reduceEqDiff,reduceIte,Int.reduceEq,reduceCtorEq,g1,g3,g7,g8,g9,e1,AH,hget,hld,hq2,hi2,e3,l3,hc,hsum,hw1,AX]
     exact ⟨x - 1,by omega,i+1,by omega,(H3.sel [] [1] (by simp) (by simp)),rfl,rfl⟩
   · have e1:((i:Int) < (n.kids.length:Int))=False:=eq_false (by omega)
     obtain rfl:i=n.kids.length:=by omega
     simp only [go_sem,AD,AA,AC,AB,KB_n,KB_x,Nat.reduceBEq,Nat.reduceAdd,Nat.reduceLT,Nat.reduceLeDiff,Nat.reduceEqDiff,reduceIte,Int.reduceEq,reduceCtorEq,g1,g3,g7,g8,g9,e1]
     refine AP H.over rfl ?_
     rw [hN,List.take_length]; rfl
 · simp only [go_sem,AD,AA,AC,AB,KB_n,KB_x,Nat.reduceBEq,Nat.reduceAdd,Nat.reduceLT,Nat.reduceLeDiff,Nat.reduceEqDiff,reduceIte,Int.reduceEq,reduceCtorEq]
   exact ⟨0,by omega,H1,by simp⟩
theorem Lc {α:Type} (f:α→Nat) (B:Nat):∀ {l:List α},(∀ a∈l,f a≤B)→(l.map f).foldr max 0≤B
 | [],_=>by simp
 | a::l,h=>by
   simp only [List.map_cons,List.foldr_cons]
   have:=Lc f B (l:=l) fun x hx=>h x (by simp [hx])
   have:=h a (by simp)
   omega
theorem Te {α:Type} (f:α→Nat) {l:List α} {i:Nat} {a:α} (h:l[i]? = some a):((l.take (i+1)).map f).foldr max 0=max ((l.take i).map f |>.foldr max 0) (f a):=by
 rw [List.take_add_one,h]
 have:∀ (L:List Nat) (x:Nat),(L++[x]).foldr max 0=max (L.foldr max 0) x:=by
  intro L x
  induction L with
  | nil=>simp
  | cons b L ih=>simp only [List.cons_append,List.foldr_cons,ih]; omega
 simp only [Option.toList_some,List.map_append,List.map_cons,List.map_nil,this]
theorem Ob:∀ n:ND,deepN n≤nodesN n:=by
 refine ND.ind fun n ih=>?_
 rw [Pp,FE]
 refine Lc _ _ fun k hk=>?_
 have:=ih k hk
 have:=HQ (f:=nodesN) hk
 omega
theorem ZI:∀ n:ND,nodesN n < 2^62→∀ s,Wf s→(lim prog).call F9 [.agg n.cells] s=some (.i .i64 (deepN n:Nat),s):=by
 refine ND.ind fun n ih hb s hw=>?_
 refine fn_W PU rfl rfl ?_
 have H1:=(Hp.begin hw).new (.cells 37 n.cells)
 generalize hq:s.enter.new (.cells 37 n.cells)=q at H1
 generalize hm:s.enter.nb=m at H1
 have l1:=H1.ld 0 (off:=3) (v:=.ws false 4 (n.kids.map ND.av)) rfl rfl
 have hN:=FE n
 have hk:n.kids.length≤(n.kids.map nodesN).sum:=by
  generalize n.kids=l
  induction l with
  | nil=>simp
  | cons a l il=>simp only [List.length_cons,List.map_cons,List.sum_cons]; have:=FE a; omega
 have hz0:wkZ EL.cin [.agg n.cells]=[.agg n.cells]:=by simp [EL,wkZ,wk,ND.cells]
 rw [hz0]
 simp only [EL,go_sem,AD,AA,AC,AB,KB_n,KB_x,Nat.reduceBEq,Nat.reduceAdd,Nat.reduceLT,Nat.reduceLeDiff,Nat.reduceEqDiff,reduceIte,Int.reduceEq,reduceCtorEq,Ar,hq,hm,l1,Nat.zero_add]
 refine Br (fun x e q=>∃ i:Nat,i+x=n.kids.length∧Hp s q s.en [] [(m,.cells 37 n.cells)]∧e.get 1=.p m 0∧e.get 3=.i .i64 ((((n.kids.take i).map fun k=>1+deepN k).foldr max 0:Nat):Int)∧e.get 7=.ws false 4 (n.kids.map ND.av)∧e.get 8=.i .i64 (n.kids.length:Nat)∧e.get 9=.i .i64 (i:Nat)) ?_ n.kids.length _ _ ?_
 · rintro x e q' ⟨i,hi,H,g1,g3,g7,g8,g9⟩
   by_cases h:i < n.kids.length
   · have e1:((i:Int) < (n.kids.length:Int))=True:=eq_true (by omega)
     obtain ⟨k,hk1⟩:∃ k,n.kids[i]? = some k:=⟨_,List.getElem?_eq_getElem h⟩
     have hmem:k∈n.kids:=List.mem_of_getElem? hk1
     have hget:=Hu hk1
     have hle:=HQ (f:=nodesN) hmem
     have hdn:=Ob k
     have hmt:=Te (fun k=>1+deepN k) hk1
     have H2:=H.new (.cells 37 [.i .u8 0,.s [],.nsl,.nsl])
     generalize hq2:q'.new (.cells 37 [.i .u8 0,.s [],.nsl,.nsl])=q2 at H2
     generalize hi2:q'.nb=j2 at H2
     obtain ⟨q3,e3,H3,_⟩:=H2.stw 0 (v:=.agg k.cells) (m:=4) rfl rfl ⟨Ar k,Pq k⟩
     have l3:=H3.ldw 0 (m:=4) rfl rfl
     have hc:=ih k hmem (by omega) q3 H3.wf
     have hsum:IntKind.i64.wrap (1+((deepN k:Nat):Int))=((1+deepN k:Nat):Int):=by
      rw [show (1:Int)+((deepN k:Nat):Int)=((1+deepN k:Nat):Int) by omega]
      exact FG (by omega)
     have hmx:(if ((1+deepN k:Nat):Int) > ((((n.kids.take i).map fun k=>1+deepN k).foldr max 0:Nat):Int) then ((1+deepN k:Nat):Int) else ((((n.kids.take i).map fun k=>1+deepN k).foldr max 0:Nat):Int))=((((n.kids.take (i+1)).map fun k=>1+deepN k).foldr max 0:Nat):Int):=by
      rw [hmt]
      split<;>omega
     have hw1:=Aj (show i+1 < 2^63 by omega)
     have hld:ldA q' true 4 (.ep k.cells 0 .shut)=some (.agg k.cells):=rfl
     simp only [go_sem,AD,AA,AC,AB,KB_n,KB_x,Nat.reduceBEq,Nat.reduceAdd,Nat.reduceLT,Nat.reduceLeDiff,Nat.reduceEqDiff,reduceIte,Int.reduceEq,reduceCtorEq,g1,g3,g7,g8,g9,e1,AH,hget,hld,hq2,hi2,e3,l3,hc,hsum,hw1,AX,hmx]
     exact ⟨x - 1,by omega,i+1,by omega,(H3.sel [] [1] (by simp) (by simp)),rfl,rfl⟩
   · have e1:((i:Int) < (n.kids.length:Int))=False:=eq_false (by omega)
     obtain rfl:i=n.kids.length:=by omega
     simp only [go_sem,AD,AA,AC,AB,KB_n,KB_x,Nat.reduceBEq,Nat.reduceAdd,Nat.reduceLT,Nat.reduceLeDiff,Nat.reduceEqDiff,reduceIte,Int.reduceEq,reduceCtorEq,g1,g3,g7,g8,g9,e1]
     refine AP H.over rfl ?_
     rw [Pp n,List.take_length]; rfl
 · simp only [go_sem,AD,AA,AC,AB,KB_n,KB_x,Nat.reduceBEq,Nat.reduceAdd,Nat.reduceLT,Nat.reduceLeDiff,Nat.reduceEqDiff,reduceIte,Int.reduceEq,reduceCtorEq]
   exact ⟨0,by omega,H1,by simp⟩
end Go.Proofs.YtgloinighjdhlaaGreat

namespace Go.Proofs.YtgloinighjdhlaaGreat
open Go.Proofs.YtgloinighjdhlaaGreat.Am
/-! ### A byte in a text -/
theorem XA {a c:Nat} (h:¬ a=c):Nat.beq a c=false:=Bool.eq_false_iff.2 (by rw [Ne,Nat.beq_eq]; exact h)
theorem Tg {c:Nat}:∀ {l:List Nat} {n:Nat},idxB c n l < 0↔c∉l
 | [],n=>by simp [idxB]
 | a :: l,n=>by
   simp only [idxB]
   by_cases h:a=c
   · subst h
     simp [Nat.beq_eq]
   · have hb:Nat.beq a c=false:=XA h
     rw [hb,cond_false,Tg]
     simp; omega
theorem RF {c:Nat}:∀ {l:List Nat} {n:Nat},c∉l→idxB c n l = -1
 | [],n,_=>rfl
 | a::l,n,h=>by
   simp only [List.mem_cons,not_or] at h
   have hb:Nat.beq a c=false:=XA (Ne.symm h.1)
   simp only [idxB]
   rw [hb,cond_false,RF h.2]
theorem ext0 (s:St) (l:List Nat) (c:Nat) (hc:c < 256):extA s 0 [.s l,.i .u8 (c:Int)]=some (.i .i64 (idxB c 0 l),s):=by
 have h:((IntKind.u8=IntKind.u8)∧(0:Int)≤(c:Int)∧(c:Int) < 256):=⟨rfl,by omega,by omega⟩
 show (if _ then _ else _)=_
 rw [if_pos h]
 simp
theorem Pr (l:List Nat) (c:Nat) (hc:c < 256) (s:St):(lim prog).call CA [.s l,.i .u8 (c:Int)] s=some (.i .i64 (idxB c 0 l),s):=by
 refine fn_W FK rfl rfl ?_
 simp only [A6,go_sem,Al,AL,AK,AM,Ak,KB_n,KB_x,Nat.reduceBEq,Nat.reduceAdd,Nat.reduceLT,Nat.reduceLeDiff,Nat.reduceEqDiff,reduceIte,Int.reduceEq,reduceCtorEq,ext0 _ l c hc]
 exact AP (Over.enter s) rfl rfl
theorem Gj (l:List Nat) (c:Nat) (hc:c < 256) (s:St):(lim prog).call CM [.s l,.i .u8 (c:Int)] s=some (.i .i64 (idxB c 0 l),s):=by
 refine fn_W Jc rfl rfl ?_
 simp only [Cy,go_sem,Al,AL,AK,AM,Ak,KB_n,KB_x,Nat.reduceBEq,Nat.reduceAdd,Nat.reduceLT,Nat.reduceLeDiff,Nat.reduceEqDiff,reduceIte,Int.reduceEq,reduceCtorEq,Pr l c hc]
 exact AP (Over.enter s) rfl rfl
theorem XB:Cv (.i .i64 0)=some 0:=rfl

theorem u8N {n:Nat} (h:n < 256):(UInt8.ofNat n).toNat=n:=by simp [UInt8.toNat_ofNat']; omega
theorem XC {r:Int} (h0:128≤r) (hv:Utf8.valid r=true):(∃ a b,encN r=[a,b]∧128≤b∧b < 256)∨(∃ a b c,encN r=[a,b,c]∧128≤c∧c < 256)∨∃ a b c d,encN r=[a,b,c,d]:=by
 have hr:r≤1114111:=by
  simp only [Utf8.valid,Bool.or_eq_true,Bool.and_eq_true,decide_eq_true_eq] at hv
  omega
 obtain ⟨n,rfl⟩:∃ n:Nat,r=n:=⟨r.toNat,by omega⟩
 simp only [encN,Utf8.encode,hv,if_true,Int.toNat_natCast]
 by_cases h1:n < 128
 · omega
 rw [if_neg h1]
 by_cases h2:n < 2048
 · rw [if_pos h2]
   exact .inl ⟨_,_,rfl,by show 128≤(UInt8.ofNat _).toNat; rw [u8N (by omega)]; omega,by show (UInt8.ofNat _).toNat < 256; rw [u8N (by omega)]; omega⟩
 rw [if_neg h2]
 by_cases h3:n < 65536
 · rw [if_pos h3]
   exact .inr (.inl ⟨_,_,_,rfl,by show 128≤(UInt8.ofNat _).toNat; rw [u8N (by omega)]; omega,by show (UInt8.ofNat _).toNat < 256; rw [u8N (by omega)]; omega⟩)
 rw [if_neg h3]
 exact .inr (.inr ⟨_,_,_,_,rfl⟩)
theorem RH (r:Int) (s:St):(lim prog).call DT [.i .i32 r] s=some (.b (Utf8.valid r),s):=by
 refine fn_W HI rfl rfl ?_
 simp only [Bs,go_sem,Al,AL,AK,AM,Ak,KB_n,KB_x,Nat.reduceBEq,Nat.reduceAdd,Nat.reduceLT,Nat.reduceLeDiff,Nat.reduceEqDiff,reduceIte,Int.reduceEq,reduceCtorEq]
 by_cases h0:0≤r
 · by_cases h1:r < 55296
   · simp only [go_sem,Al,AL,AK,AM,Ak,KB_n,KB_x,Nat.reduceBEq,Nat.reduceAdd,Nat.reduceLT,Nat.reduceLeDiff,Nat.reduceEqDiff,reduceIte,Int.reduceEq,reduceCtorEq,h0,h1]
     exact AP (Over.enter s) rfl (by simp [CZ,wkZ,wk,Utf8.valid,h0,h1])
   · by_cases h2:57343 < r
     · by_cases h3:r≤1114111
       · simp only [go_sem,Al,AL,AK,AM,Ak,KB_n,KB_x,Nat.reduceBEq,Nat.reduceAdd,Nat.reduceLT,Nat.reduceLeDiff,Nat.reduceEqDiff,reduceIte,Int.reduceEq,reduceCtorEq,h0,h1,h2,h3]
         refine AP (Over.enter s) rfl ?_
         have h4:57344≤r:=by omega
         simp [CZ,wkZ,wk,Utf8.valid,h3,h4]
       · simp only [go_sem,Al,AL,AK,AM,Ak,KB_n,KB_x,Nat.reduceBEq,Nat.reduceAdd,Nat.reduceLT,Nat.reduceLeDiff,Nat.reduceEqDiff,reduceIte,Int.reduceEq,reduceCtorEq,h0,h1,h2,h3]
         refine AP (Over.enter s) rfl ?_
         simp [CZ,wkZ,wk,Utf8.valid,h1,h3]
     · simp only [go_sem,Al,AL,AK,AM,Ak,KB_n,KB_x,Nat.reduceBEq,Nat.reduceAdd,Nat.reduceLT,Nat.reduceLeDiff,Nat.reduceEqDiff,reduceIte,Int.reduceEq,reduceCtorEq,h0,h1,h2]
       refine AP (Over.enter s) rfl ?_
       have h4:¬ 57344≤r:=by omega
       simp [CZ,wkZ,wk,Utf8.valid,h1,h4]
 · have h2:¬ 57343 < r:=by omega
   simp only [go_sem,Al,AL,AK,AM,Ak,KB_n,KB_x,Nat.reduceBEq,Nat.reduceAdd,Nat.reduceLT,Nat.reduceLeDiff,Nat.reduceEqDiff,reduceIte,Int.reduceEq,reduceCtorEq,h0,h2]
   refine AP (Over.enter s) rfl ?_
   have h4:¬ 57344≤r:=by omega
   simp [CZ,wkZ,wk,Utf8.valid,h0,h4]
abbrev K3:List Nat:=[47,0,10]
def RI (r:Int):Int:=if r < 128 then idxB r.toNat 0 K3 else -1
theorem Ip (i:Nat):Cv (.i .i64 (i:Int))=some i:=AH _ i
theorem Zt:Cv (.i .i64 1)=some 1:=rfl
theorem Zu:Cv (.i .i64 2)=some 2:=rfl
theorem w1:IntKind.i64.wrap (2 - 1)=1:=rfl
theorem w2:IntKind.i64.wrap (3 - 1)=2:=rfl
theorem w3:IntKind.i64.wrap (4 - 1)=3:=rfl
theorem w4:IntKind.i64.wrap (1+1)=2:=rfl
theorem w5:IntKind.i64.wrap (2+1)=3:=rfl
theorem bnd2:Cb 3 (some (.i .i64 2)) none=some (2,3):=rfl
theorem bnd3:Cb 3 (some (.i .i64 3)) none=some (3,3):=rfl
theorem Lg (r:Int) (h0:0≤r) (h1:r≤2147483647) (s:St):(lim prog).call CL [.s K3,.i .i32 r] s=some (.i .i64 (RI r),s):=by
 refine fn_W Jb rfl rfl ?_
 have h0':((0:Int)≤r)=True:=by simp [h0]
 by_cases hr:r < 128
 · have hr':(r < 128)=True:=by simp [hr]
   obtain ⟨n,rfl⟩:∃ n:Nat,r=n:=⟨r.toNat,by omega⟩
   have hw:IntKind.u8.wrap (n:Int)=(n:Int):=by
    have e:(n:Int) % 2^8=n:=by omega
    simp only [IntKind.wrap,IntKind.signed,IntKind.bits,e]
    rfl
   simp only [A5,go_sem,Al,AL,AK,AM,Ak,KB_n,KB_x,Nat.reduceBEq,Nat.reduceAdd,Nat.reduceLT,Nat.reduceLeDiff,Nat.reduceEqDiff,reduceIte,Int.reduceEq,reduceCtorEq,h0',hr',hw,Gj K3 n (by omega)]
   exact AP (Over.enter s) rfl (by simp [CZ,wkZ,wk,RI,hr])
 · have hr':(r < 128)=False:=by simp [hr]
   have hP:RI r = -1:=by unfold RI; rw [if_neg hr]
   by_cases he:r=65533
   · have he':(r=65533)=True:=by simp [he]
     simp only [A5,go_sem,Al,AL,AK,AM,Ak,KB_n,KB_x,Nat.reduceBEq,Nat.reduceAdd,Nat.reduceLT,Nat.reduceLeDiff,Nat.reduceEqDiff,reduceIte,Int.reduceEq,reduceCtorEq,h0',hr',he']
     refine Br (fun n e q=>∃ p:Nat,p+n=3∧q=s.enter.new (.siter K3 p)∧e.get 175=.p s.enter.nb 0) ?_ 3 _ _ ?_
     · rintro n e q ⟨p,hp,rfl,g⟩
       have hs:∀ p',(s.enter.new (.siter K3 p)).setBox s.enter.nb (.siter K3 p')=s.enter.new (.siter K3 p'):=fun p'=>Mp _ _ _
       have h47:((Int.ofNat 47:Int)=65533)=False:=by simp
       have h00:((Int.ofNat 0:Int)=65533)=False:=by simp
       have h10:((Int.ofNat 10:Int)=65533)=False:=by simp
       have l3:([47,0,10]:List Nat)[3]? = none:=rfl
       have a1:(47 < 128)=True:=by simp
       have a2:(0 < 128)=True:=by simp
       have a3:(10 < 128)=True:=by simp
       have hov:=((Over.enter s).new (.siter K3 3))
       have:p=0∨p=1∨p=2∨p=3:=by omega
       rcases this with rfl | rfl | rfl | rfl
       · simp only [go_sem,Al,AL,AK,AM,Ak,KB_n,KB_x,Nat.reduceBEq,Nat.reduceAdd,Nat.reduceLT,Nat.reduceLeDiff,Nat.reduceEqDiff,reduceIte,Int.reduceEq,reduceCtorEq,g,a1,a2,a3,h47,h00,h10,hs]
         exact ⟨n - 1,by omega,1,by omega,rfl⟩
       · simp only [go_sem,Al,AL,AK,AM,Ak,KB_n,KB_x,Nat.reduceBEq,Nat.reduceAdd,Nat.reduceLT,Nat.reduceLeDiff,Nat.reduceEqDiff,reduceIte,Int.reduceEq,reduceCtorEq,g,a1,a2,a3,h47,h00,h10,hs]
         exact ⟨n - 1,by omega,2,by omega,rfl⟩
       · simp only [go_sem,Al,AL,AK,AM,Ak,KB_n,KB_x,Nat.reduceBEq,Nat.reduceAdd,Nat.reduceLT,Nat.reduceLeDiff,Nat.reduceEqDiff,reduceIte,Int.reduceEq,reduceCtorEq,g,a1,a2,a3,h47,h00,h10,hs]
         exact ⟨n - 1,by omega,3,by omega,rfl⟩
       · simp only [go_sem,Al,AL,AK,AM,Ak,KB_n,KB_x,Nat.reduceBEq,Nat.reduceAdd,Nat.reduceLT,Nat.reduceLeDiff,Nat.reduceEqDiff,reduceIte,Int.reduceEq,reduceCtorEq,g,l3]
         exact AP hov rfl (by rw [hP]; rfl)
     · simp only [go_sem,Al,AL,AK,AM,Ak,KB_n,KB_x,Nat.reduceBEq,Nat.reduceAdd,Nat.reduceLT,Nat.reduceLeDiff,Nat.reduceEqDiff,reduceIte,Int.reduceEq,reduceCtorEq]
       exact ⟨0,by omega,rfl⟩
   · have he':(r=65533)=False:=by simp [he]
     have hv:=RH r
     cases hvr:Utf8.valid r with
     | false =>
       rw [hvr] at hv
       simp only [A5,go_sem,Al,AL,AK,AM,Ak,KB_n,KB_x,Nat.reduceBEq,Nat.reduceAdd,Nat.reduceLT,Nat.reduceLeDiff,Nat.reduceEqDiff,reduceIte,Int.reduceEq,reduceCtorEq,h0',hr',he',hv]
       exact AP (Over.enter s) rfl (by rw [hP]; rfl)
     | true =>
       rw [hvr] at hv
       have hl3:List.length K3=3:=rfl
       rcases XC (show 128≤r by omega) hvr with ⟨a,b,h2,hb1,hb2⟩ | ⟨a,b,c,h2,hb1,hb2⟩ | ⟨a,b,c,d,h2⟩
       · simp only [A5,go_sem,Al,AL,AK,AM,Ak,KB_n,KB_x,Nat.reduceBEq,Nat.reduceAdd,Nat.reduceLT,Nat.reduceLeDiff,Nat.reduceEqDiff,reduceIte,Int.reduceEq,reduceCtorEq,h0',hr',he',hv,h2]
         refine Br (fun n e q=>q=s.enter∧e.get 0=.s K3∧e.get 7=.s [a,b]∧e.get 8=.i .i64 1∧e.get 9=.i .i64 1) ?_ 0 _ _ ?_
         · rintro n e q ⟨rfl,g0,g7,g8,g9⟩
           have c1:((1:Int) < 3)=True:=by simp
           have c2:((0:Int)≠(b:Int))=True:=by simp; omega
           have hix:=Gj [10] b hb2 s.enter
           have hmiss:idxB b 0 [10] = -1:=RF (by simp; omega)
           rw [hmiss] at hix
           have hd:((([47,0,10]:List Nat).drop 2).take (3 - 2))=[10]:=rfl
           have hm1:((-1:Int) < 0)=True:=by simp
           simp only [go_sem,Al,AL,AK,AM,Ak,KB_n,KB_x,Nat.reduceBEq,Nat.reduceAdd,Nat.reduceLT,Nat.reduceLeDiff,Nat.reduceEqDiff,reduceIte,Int.reduceEq,reduceCtorEq,g0,g7,g8,g9,List.length_cons,List.length_nil,A3,Int.cast_ofNat_Int,c1,Zt,c2,w4,bnd2,hd,hix,hm1]
           exact AP (Over.enter s) rfl (by rw [hP]; rfl)
         · simp only [go_sem,Al,AL,AK,AM,Ak,KB_n,KB_x,Nat.reduceBEq,Nat.reduceAdd,Nat.reduceLT,Nat.reduceLeDiff,Nat.reduceEqDiff,reduceIte,Int.reduceEq,reduceCtorEq,w1,List.length_cons,List.length_nil,A3,Int.cast_ofNat_Int,and_self]
       · simp only [A5,go_sem,Al,AL,AK,AM,Ak,KB_n,KB_x,Nat.reduceBEq,Nat.reduceAdd,Nat.reduceLT,Nat.reduceLeDiff,Nat.reduceEqDiff,reduceIte,Int.reduceEq,reduceCtorEq,h0',hr',he',hv,h2]
         refine Br (fun n e q=>q=s.enter∧e.get 0=.s K3∧e.get 7=.s [a,b,c]∧e.get 8=.i .i64 2∧e.get 9=.i .i64 2) ?_ 0 _ _ ?_
         · rintro n e q ⟨rfl,g0,g7,g8,g9⟩
           have c1:((2:Int) < 3)=True:=by simp
           have c2:((10:Int)≠(c:Int))=True:=by simp; omega
           have hix:=Gj [] c hb2 s.enter
           have hmiss:idxB c 0 [] = -1:=rfl
           rw [hmiss] at hix
           have hd:((([47,0,10]:List Nat).drop 3).take (3 - 3))=[]:=rfl
           have hm1:((-1:Int) < 0)=True:=by simp
           simp only [go_sem,Al,AL,AK,AM,Ak,KB_n,KB_x,Nat.reduceBEq,Nat.reduceAdd,Nat.reduceLT,Nat.reduceLeDiff,Nat.reduceEqDiff,reduceIte,Int.reduceEq,reduceCtorEq,g0,g7,g8,g9,List.length_cons,List.length_nil,A3,Int.cast_ofNat_Int,c1,Zu,c2,w5,bnd3,hd,hix,hm1]
           exact AP (Over.enter s) rfl (by rw [hP]; rfl)
         · simp only [go_sem,Al,AL,AK,AM,Ak,KB_n,KB_x,Nat.reduceBEq,Nat.reduceAdd,Nat.reduceLT,Nat.reduceLeDiff,Nat.reduceEqDiff,reduceIte,Int.reduceEq,reduceCtorEq,w2,List.length_cons,List.length_nil,A3,Int.cast_ofNat_Int,and_self]
       · simp only [A5,go_sem,Al,AL,AK,AM,Ak,KB_n,KB_x,Nat.reduceBEq,Nat.reduceAdd,Nat.reduceLT,Nat.reduceLeDiff,Nat.reduceEqDiff,reduceIte,Int.reduceEq,reduceCtorEq,h0',hr',he',hv,h2]
         refine Br (fun n e q=>q=s.enter∧e.get 0=.s K3∧e.get 9=.i .i64 3) ?_ 0 _ _ ?_
         · rintro n e q ⟨rfl,g0,g9⟩
           have c1:((3:Int) < 3)=False:=by simp
           simp only [go_sem,Al,AL,AK,AM,Ak,KB_n,KB_x,Nat.reduceBEq,Nat.reduceAdd,Nat.reduceLT,Nat.reduceLeDiff,Nat.reduceEqDiff,reduceIte,Int.reduceEq,reduceCtorEq,g0,g9,List.length_cons,List.length_nil,A3,Int.cast_ofNat_Int,c1]
           exact AP (Over.enter s) rfl (by rw [hP]; rfl)
         · simp only [go_sem,Al,AL,AK,AM,Ak,KB_n,KB_x,Nat.reduceBEq,Nat.reduceAdd,Nat.reduceLT,Nat.reduceLeDiff,Nat.reduceEqDiff,reduceIte,Int.reduceEq,reduceCtorEq,w3,List.length_cons,List.length_nil,A3,Int.cast_ofNat_Int,and_self]

abbrev bs (B:List Bool):List AV:=B.map AV.b
section
variable {s:St} {id T n:Nat}
theorem XD (s:St):∀ B:List Bool,pubL s (bs B)=some (bs B,s)
 | []=>rfl
 | b::B=>by
   simp only [bs,List.map_cons,pubL,Vo]
   rw [XD s B]
theorem XE (s:St):∀ B:List Bool,frzL s (bs B)=some (bs B,s)
 | []=>rfl
 | b::B=>by
   simp only [bs,List.map_cons,frzL,frz,Vo]
   rw [XE s B]
theorem XF:∀ B:List Bool,ones (bs B)=true
 | []=>rfl
 | b::B=>by
   simp only [bs,List.map_cons,ones]
   exact XF B
theorem SP:∀ B:List Bool,AV.refs.go (bs B)=false
 | []=>rfl
 | b::B=>by
   simp only [bs,List.map_cons,AV.refs.go,AV.refs,Bool.false_or]
   exact SP B
theorem bs_wk:∀ (n:Nat) (B:List Bool),wkZ (List.replicate n .id) (bs B)=bs B
 | 0,B=>by simp [wkZ]
 | n+1,[]=>by simp [wkZ]
 | n+1,b::B=>by
   have:=bs_wk n B
   simp only [bs,List.map_cons,List.replicate_succ,wkZ,wk] at this ⊢
   rw [this]
theorem bs_ld {B:List Bool} (h:s.box? id=some (.cells T (bs B))) (hn:B.length=n):ldA s true n (.p id 0)=some (.agg (bs B)):=by
 have:cut (bs B) 0 n=some (bs B):=by
  have e:(bs B).take n=bs B:=List.take_of_length_le (by simp; omega)
  have e2:(bs B).length=n:=by simpa using hn
  simp only [cut,List.drop_zero,e,e2,if_true]
 simp only [ldA,St.cells?,h,this,scal]
theorem bs_ld1 {B:List Bool} {i:Nat} {b:Bool} (h:s.box? id=some (.cells T (bs B))) (hi:B[i]? = some b):ldA s false 1 (.p id i)=some (.b b):=by
 exact D3 h (by simp [hi])
theorem bs_st {B B':List Bool} (h:s.box? id=some (.cells T (bs B'))) (hn:B.length=n) (hn':B'.length=n):stA s n (.p id 0) (.agg (bs B))=some (s.setBox id (.cells T (bs B))):=by
 have h1:(AV.agg (bs B)).cells=bs B:=rfl
 have h2:(bs B).length=n:=by simpa using hn
 have h3:over (bs B') 0 (bs B)=some (bs B):=by
  unfold over
  rw [if_pos (by simp; omega)]
  simp [hn,hn']
 simp only [stA,h,h1,h2,XF,and_self,if_true,h3,esc]
 have h4:(AV.agg (bs B)).refs=false:=by simp only [AV.refs]; exact SP B
 rw [h4]
 rfl
theorem XG {B:List Bool} {i:Nat} (h:s.box? id=some (.cells T (bs B))) (hi:i < B.length):stA s 1 (.p id i) (.b true)=some (s.setBox id (.cells T (bs (B.set i true)))):=by
 rw [Vr h rfl rfl (by simpa using hi)]
 have:(bs B).set i (.b true)=bs (B.set i true):=by simp [bs,List.map_set]
 rw [this]
 rfl
end
def F256:List Bool:=List.replicate 256 false
abbrev Z256:List AV:=bs F256
def B3:List Bool:=((F256.set 47 true).set 0 true).set 10 true
theorem len0:F256.length=256:=by simp [F256]
theorem len1':(F256.set 47 true).length=256:=by simp [F256]
theorem len2':((F256.set 47 true).set 0 true).length=256:=by simp [F256]
theorem XH:B3.length=256:=by simp [B3,F256]
theorem b3_all:((List.range 256).all fun c=>B3[c]? == some (decide (c∈K3)))=true:=by kernel_rfl
theorem b3_get {c:Nat} (h:c < 256):B3[c]? = some (decide (c∈K3)):=by
 have:=List.all_eq_true.1 b3_all c (by simpa using h)
 simpa using this
theorem cM:BW.body =
 (.seq (.reg [⟨(some 2),.alloc 106 Z256,none⟩,
  ⟨(some 3),.mv (.c (.b false)),none⟩])
 (.seq (.seq (.reg [⟨(some 4),.mv (.c (.i .i64 0)),none⟩])
 (.blk 0 (.loop (.seq (.seq (.reg [⟨(some 6),.mv (.t 4),none⟩,
     ⟨(some 7),.mv (.t 0),none⟩,
     ⟨(some 8),.len 0 (.t 7),none⟩,
     ⟨(some 9),.bin .lss (.t 6) (.t 8),none⟩])
  (.cond (.t 9)
   .skip
   (.exit 0)))
  (.seq (.blk 1 (.seq (.reg [⟨(some 12),.mv (.t 0),none⟩,
     ⟨(some 13),.mv (.t 4),none⟩,
     ⟨(some 14),.ixS (.t 12) (.t 13),none⟩,
     ⟨(some 5),.mv (.t 14),none⟩])
   (.seq (.seq (.reg [⟨(some 15),.mv (.t 5),none⟩,
    ⟨(some 16),.bin .geq (.t 15) (.c (.i .u8 128)),none⟩])
   (.cond (.t 16)
    (.seq (.reg [⟨(some 17),.ld true 256 (.t 2),none⟩,
     ⟨none,.st 256 (.t 2) (.t 17),none⟩,
     ⟨(some 3),.mv (.c (.b false)),none⟩])
    .ret)
    .skip))
   (.reg [⟨(some 18),.mv (.t 5),none⟩,
    ⟨(some 19),.iaA 256 1 (.t 2) (.t 18),none⟩,
    ⟨none,.st 1 (.t 19) (.c (.b true)),none⟩]))))
  (.reg [⟨(some 10),.mv (.t 4),none⟩,
   ⟨(some 11),.bin .add (.t 10) (.c (.i .i64 1)),none⟩,
   ⟨(some 4),.mv (.t 11),none⟩]))))))
 (.seq (.reg [⟨(some 20),.ld true 256 (.t 2),none⟩,
  ⟨none,.st 256 (.t 2) (.t 20),none⟩,
  ⟨(some 3),.mv (.c (.b true)),none⟩])
 .ret))):=by rfl
theorem cN:Bg.body =
 (.seq (.reg [⟨(some 4),.mv (.c (.i .i64 0)),none⟩])
 (.seq (.seq (.reg [⟨(some 11),.mv (.t 1),none⟩,
  ⟨(some 12),.bin .eql (.t 11) (.c (.s [])),none⟩])
 (.cond (.t 12)
  (.seq (.reg [⟨(some 4),.mv (.c (.i .i64 (-1))),none⟩])
  .ret)
  .skip))
 (.seq (.seq (.reg [⟨(some 13),.mv (.t 1),none⟩,
  ⟨(some 14),.len 0 (.t 13),none⟩,
  ⟨(some 15),.bin .eql (.t 14) (.c (.i .i64 1)),none⟩])
 (.cond (.t 15)
  (.seq (.reg [⟨(some 16),.mv (.t 1),none⟩,
   ⟨(some 17),.ixS (.t 16) (.c (.i .i64 0)),none⟩,
   ⟨(some 18),.cvI .i32 (.t 17),none⟩,
   ⟨(some 5),.mv (.t 18),none⟩])
  (.seq (.seq (.reg [⟨(some 19),.mv (.t 5),none⟩,
   ⟨(some 20),.bin .geq (.t 19) (.c (.i .i32 128)),none⟩])
  (.cond (.t 20)
   (.reg [⟨(some 5),.mv (.c (.i .i32 65533)),none⟩])
   .skip))
  (.seq (.reg [⟨(some 21),.mv (.t 0),none⟩,
   ⟨(some 22),.mv (.t 5),none⟩,
   ⟨(some 23),.call CL [(.t 21),(.t 22)],none⟩,
   ⟨(some 4),.mv (.t 23),none⟩])
  .ret)))
  .skip))
 (.seq (.seq (.reg [⟨(some 24),.mv (.t 0),none⟩,
  ⟨(some 25),.len 0 (.t 24),none⟩,
  ⟨(some 26),.call Bz [(.t 25)],none⟩])
 (.cond (.t 26)
  (.seq (.reg [⟨(some 28),.mv (.t 1),none⟩,
   ⟨(some 29),.call C4 [(.t 28)],none⟩,
   ⟨(some 27),.mv (.t 29),none⟩,
   ⟨(some 30),.ext (.t 27) 0,none⟩,
   ⟨(some 31),.ext (.t 27) 1,none⟩,
   ⟨(some 6),.alloc 106 Z256,none⟩,
   ⟨none,.st 256 (.t 6) (.t 30),none⟩,
   ⟨(some 7),.mv (.t 31),none⟩])
  (.seq (.reg [⟨(some 32),.mv (.t 7),none⟩])
  (.cond (.t 32)
   (.seq (.seq (.reg [⟨(some 8),.mv (.c (.i .i64 0)),none⟩])
   (.blk 0 (.loop (.seq (.seq (.reg [⟨(some 33),.mv (.t 8),none⟩,
       ⟨(some 34),.mv (.t 0),none⟩,
       ⟨(some 35),.len 0 (.t 34),none⟩,
       ⟨(some 36),.bin .lss (.t 33) (.t 35),none⟩])
    (.cond (.t 36)
     .skip
     (.exit 0)))
    (.seq (.blk 1 (.seq (.reg [⟨(some 39),.mv (.t 0),none⟩,
       ⟨(some 40),.mv (.t 8),none⟩,
       ⟨(some 41),.ixS (.t 39) (.t 40),none⟩,
       ⟨(some 42),.call B2 [(.t 6),(.t 41)],none⟩])
     (.cond (.t 42)
      (.seq (.reg [⟨(some 43),.mv (.t 8),none⟩,
       ⟨(some 4),.mv (.t 43),none⟩])
      .ret)
      .skip)))
    (.reg [⟨(some 37),.mv (.t 8),none⟩,
     ⟨(some 38),.bin .add (.t 37) (.c (.i .i64 1)),none⟩,
     ⟨(some 8),.mv (.t 38),none⟩]))))))
   (.seq (.reg [⟨(some 4),.mv (.c (.i .i64 (-1))),none⟩])
   .ret))
   .skip)))
  .skip))
 (.seq (.seq (.reg [⟨(some 44),.mv (.t 0),none⟩,
  ⟨(some 45),.siter (.t 44),none⟩])
 (.blk 2 (.loop (.seq (.reg [⟨(some 46),.snext (.t 45),none⟩,
     ⟨(some 47),.ext (.t 46) 0,none⟩])
  (.seq (.cond (.t 47)
   .skip
   (.exit 2))
  (.blk 3 (.seq (.reg [⟨(some 48),.ext (.t 46) 1,none⟩,
     ⟨(some 49),.ext (.t 46) 2,none⟩,
     ⟨(some 9),.mv (.t 48),none⟩,
     ⟨(some 10),.mv (.t 49),none⟩])
   (.seq (.reg [⟨(some 50),.mv (.t 1),none⟩,
    ⟨(some 51),.mv (.t 10),none⟩,
    ⟨(some 52),.call CL [(.t 50),(.t 51)],none⟩,
    ⟨(some 53),.bin .geq (.t 52) (.c (.i .i64 0)),none⟩])
   (.cond (.t 53)
    (.seq (.reg [⟨(some 54),.mv (.t 9),none⟩,
     ⟨(some 4),.mv (.t 54),none⟩])
    .ret)
    .skip)))))))))
 (.seq (.reg [⟨(some 4),.mv (.c (.i .i64 (-1))),none⟩])
 .ret)))))):=by rfl
theorem cO:BW.cout=[.agg (List.replicate 256 .id),.id]:=by rfl
theorem ZK (n:Nat):Cv (.i .u8 (n:Int))=some n:=AH _ n
theorem mk_ok (s:St) (hw:Wf s):(lim prog).call C4 [.s K3] s=some (.tup [.agg (bs B3),.b true],s):=by
 refine fn_W IJ rfl rfl ?_
 rw [cM,cO]
 have hnb:s.enter.nb=s.nb:=rfl
 have hwx:∀ B,Wf (s.enter.new (.cells 106 (bs B))):=fun B=>hw.enter.new _
 have hset:∀ B B',(s.enter.new (.cells 106 (bs B))).setBox s.nb (.cells 106 (bs B'))=s.enter.new (.cells 106 (bs B')):=fun B B'=>Mp s.enter _ _
 have hb:∀ B,(s.enter.new (.cells 106 (bs B))).box? s.nb=some (.cells 106 (bs B)):=fun B=>BG s.enter _
 have s1:=XG (i:=47) (hb F256) (by rw [len0]; decide)
 have s2:=XG (i:=0) (hb (F256.set 47 true)) (by rw [len1']; decide)
 have s3:=XG (i:=10) (hb ((F256.set 47 true).set 0 true)) (by rw [len2']; decide)
 rw [hset] at s1 s2 s3
 have la:=bs_ld (hb B3) XH
 have st:=bs_st (hb B3) XH XH
 rw [hset] at st
 have hres:BW.res=[(2,some (true,256)),(3,none)]:=rfl
 have hpl:=XD (s.enter.new (.cells 106 (bs B3))) B3
 have hfl:=XE (s.enter.new (.cells 106 (bs B3))) B3
 have ov:Over s (s.enter.new (.cells 106 (bs B3))):=(Over.enter s).new _
 rw [hres]
 simp only [go_sem,Al,AL,AK,AM,Ak,KB_n,KB_x,Nat.reduceBEq,Nat.reduceAdd,Nat.reduceLT,Nat.reduceLeDiff,Nat.reduceEqDiff,reduceIte,Int.reduceEq,reduceCtorEq,hnb]
 refine Br (fun n e q=>e.get 0=.s K3∧e.get 2=.p s.nb 0∧∃ p:Nat,p+n=3∧e.get 4=.i .i64 p∧q=s.enter.new (.cells 106 (bs ((K3.take p).foldl (fun B c=>B.set c true) F256)))) ?_ 3 _ _ ?_
 · rintro n e q ⟨g0,g2,p,hp,g4,rfl⟩
   have:p=0∨p=1∨p=2∨p=3:=by omega
   have hl:List.length K3=3:=rfl
   rcases this with rfl | rfl | rfl | rfl
   · have c1:((0:Int) < 3)=True:=by simp
     have c2:((128:Int)≤47)=False:=by simp
     have hn:Cv (.i .u8 47)=some 47:=rfl
     have hw1:IntKind.i64.wrap (0+1)=1:=rfl
     have hx:((K3.take 0).foldl (fun B c=>B.set c true) F256)=F256:=rfl
     have hc0:((0:Nat):Int)=0:=rfl
     rw [hx]
     simp only [go_sem,Al,AL,AK,AM,Ak,KB_n,KB_x,Nat.reduceBEq,Nat.reduceAdd,Nat.reduceLT,Nat.reduceLeDiff,Nat.reduceEqDiff,reduceIte,Int.reduceEq,reduceCtorEq,g0,g2,g4,List.length_cons,List.length_nil,A3,Int.cast_ofNat_Int,hc0,c1,XB,c2,hn,Nat.mul_one,Nat.zero_add,s1,hw1]
     exact ⟨n - 1,by omega,1,by omega,rfl,rfl⟩
   · have c1:((1:Int) < 3)=True:=by simp
     have c2:((128:Int)≤0)=False:=by simp
     have hn:Cv (.i .u8 0)=some 0:=rfl
     have hx:((K3.take 1).foldl (fun B c=>B.set c true) F256)=F256.set 47 true:=rfl
     have hc0:((1:Nat):Int)=1:=rfl
     rw [hx]
     simp only [go_sem,Al,AL,AK,AM,Ak,KB_n,KB_x,Nat.reduceBEq,Nat.reduceAdd,Nat.reduceLT,Nat.reduceLeDiff,Nat.reduceEqDiff,reduceIte,Int.reduceEq,reduceCtorEq,g0,g2,g4,List.length_cons,List.length_nil,A3,Int.cast_ofNat_Int,hc0,c1,Zt,c2,hn,Nat.mul_one,Nat.zero_add,s2,w4]
     exact ⟨n - 1,by omega,2,by omega,rfl,rfl⟩
   · have c1:((2:Int) < 3)=True:=by simp
     have c2:((128:Int)≤10)=False:=by simp
     have hn:Cv (.i .u8 10)=some 10:=rfl
     have hx:((K3.take 2).foldl (fun B c=>B.set c true) F256)=(F256.set 47 true).set 0 true:=rfl
     have hc0:((2:Nat):Int)=2:=rfl
     rw [hx]
     simp only [go_sem,Al,AL,AK,AM,Ak,KB_n,KB_x,Nat.reduceBEq,Nat.reduceAdd,Nat.reduceLT,Nat.reduceLeDiff,Nat.reduceEqDiff,reduceIte,Int.reduceEq,reduceCtorEq,g0,g2,g4,List.length_cons,List.length_nil,A3,Int.cast_ofNat_Int,hc0,c1,Zu,c2,hn,Nat.mul_one,Nat.zero_add,s3,w5]
     exact ⟨n - 1,by omega,3,by omega,rfl,rfl⟩
   · have c1:((3:Int) < 3)=False:=by simp
     have hx:((K3.take 3).foldl (fun B c=>B.set c true) F256)=B3:=rfl
     have hc0:((3:Nat):Int)=3:=rfl
     rw [hx]
     simp only [go_sem,Al,AL,AK,AM,Ak,KB_n,KB_x,Nat.reduceBEq,Nat.reduceAdd,Nat.reduceLT,Nat.reduceLeDiff,Nat.reduceEqDiff,reduceIte,Int.reduceEq,reduceCtorEq,g0,g2,g4,List.length_cons,List.length_nil,A3,Int.cast_ofNat_Int,hc0,c1,la,hpl,st,hfl,frz]
     refine AP ov ?_ ?_
     · simp [CZ,AV.refs,AV.refs.go,SP]
     · simp only [wkZ]
       have e1:wk (.agg (List.replicate 256 .id)) (.agg (bs B3))=.agg (bs B3):=by
        rw [wk,bs_wk]
       rw [e1]
       rfl
 · simp only [go_sem,Al,AL,AK,AM,Ak,KB_n,KB_x,Nat.reduceBEq,Nat.reduceAdd,Nat.reduceLT,Nat.reduceLeDiff,Nat.reduceEqDiff,reduceIte,Int.reduceEq,reduceCtorEq]
   exact ⟨rfl,0,by omega,rfl,rfl⟩
theorem SQ {s:St} {id T:Nat} {B:List Bool} (h:s.box? id=some (.cells T (bs B))) {c:Nat} (hc:c < 256) {b:Bool} (hb:B[c]? = some b):(lim prog).call B2 [.p id 0,.i .u8 (c:Int)] s=some (.b b,s):=by
 refine fn_W GW rfl rfl ?_
 have hl:ldA s.enter false 1 (.p id c)=some (.b b):=bs_ld1 (s:=s.enter) h hb
 have hlt:(c < 256)=True:=by simp [hc]
 simp only [Bb,go_sem,Al,AL,AK,AM,Ak,KB_n,KB_x,Nat.reduceBEq,Nat.reduceAdd,Nat.reduceLT,Nat.reduceLeDiff,Nat.reduceEqDiff,reduceIte,Int.reduceEq,reduceCtorEq,ZK,hlt,Nat.mul_one,Nat.zero_add,hl]
 exact AP (Over.enter s) rfl rfl
end Go.Proofs.YtgloinighjdhlaaGreat

namespace Go.Proofs.YtgloinighjdhlaaGreat
open Go.Proofs.YtgloinighjdhlaaGreat.Am
theorem ZL (s:ByteArray) (pos:Nat) (h:pos < s.size) (ha:128≤(s.get! (pos+0)).toNat):pos+(Utf8.decode s pos).2≤s.size∧∀ k,k < (Utf8.decode s pos).2→128≤(s.get! (pos+k)).toNat:=by
 have hn:¬ (s.get! (pos+0)).toNat < 128:=by omega
 simp only [Utf8.decode,hn,if_false]
 split
 · rename_i h1
   simp only [Bool.and_eq_true,beq_iff_eq,decide_eq_true_eq] at h1
   split
   · refine ⟨by simp only; omega,fun k hk=>?_⟩
     have:k=0∨k=1:=by simp only at hk; omega
     rcases this with rfl | rfl<;>omega
   · refine ⟨by simp only; omega,fun k hk=>?_⟩
     have:k=0:=by simp only at hk; omega
     subst this; omega
 · split
   · rename_i h1
     simp only [Bool.and_eq_true,beq_iff_eq,decide_eq_true_eq] at h1
     split
     · refine ⟨by simp only; omega,fun k hk=>?_⟩
       have:k=0∨k=1∨k=2:=by simp only at hk; omega
       rcases this with rfl | rfl | rfl<;>omega
     · refine ⟨by simp only; omega,fun k hk=>?_⟩
       have:k=0:=by simp only at hk; omega
       subst this; omega
   · split
     · rename_i h1
       simp only [Bool.and_eq_true,beq_iff_eq,decide_eq_true_eq] at h1
       split
       · refine ⟨by simp only; omega,fun k hk=>?_⟩
         have:k=0∨k=1∨k=2∨k=3:=by simp only at hk; omega
         rcases this with rfl | rfl | rfl | rfl<;>omega
       · refine ⟨by simp only; omega,fun k hk=>?_⟩
         have:k=0:=by simp only at hk; omega
         subst this; omega
     · refine ⟨by simp only; omega,fun k hk=>?_⟩
       have:k=0:=by simp only at hk; omega
       subst this; omega
theorem bytes_get {l:List Nat} (hl:∀ n∈l,n < 256) {i:Nat} (h:i < l.length):((⟨(l.map UInt8.ofNat).toArray⟩:ByteArray).get! i).toNat=l[i]:=by
 have h1:i < (l.map UInt8.ofNat).toArray.size:=by simpa using h
 have:(⟨(l.map UInt8.ofNat).toArray⟩:ByteArray).get! i=UInt8.ofNat l[i]:=by
  show (l.map UInt8.ofNat).toArray[i]! = _
  rw [getElem!_pos _ i h1]
  simp
 rw [this,u8N (hl _ (List.getElem_mem h))]
theorem bytes_size (l:List Nat):(⟨(l.map UInt8.ofNat).toArray⟩:ByteArray).size=l.length:=by
 show (l.map UInt8.ofNat).toArray.size=_
 simp
theorem ZM {l:List Nat} (hl:∀ n∈l,n < 256) {pos:Nat} (h:pos < l.length) (hc:128≤l[pos]) :
    ∃ r w,Utf8.decode ⟨(l.map UInt8.ofNat).toArray⟩ pos=(r,w)∧128≤r∧r≤2147483647∧1≤w∧pos+w≤l.length∧∀ k (hk:k < l.length),pos≤k→k < pos+w→128≤l[k]:=by
 have hs:=bytes_size l
 have hg:=bytes_get hl h
 have hps:pos < (⟨(l.map UInt8.ofNat).toArray⟩:ByteArray).size:=by rw [hs]; exact h
 have hge:=get_at (⟨(l.map UInt8.ofNat).toArray⟩:ByteArray) pos hps
 have ha:128≤((⟨(l.map UInt8.ofNat).toArray⟩:ByteArray).get! (pos+0)).toNat:=by rw [Nat.add_zero,hg]; exact hc
 have h1:=decode_high (⟨(l.map UInt8.ofNat).toArray⟩:ByteArray) pos hps (by rw [← hge]; exact ha)
 have h2:=decode_le (⟨(l.map UInt8.ofNat).toArray⟩:ByteArray) pos
 have h3:=ZL (⟨(l.map UInt8.ofNat).toArray⟩:ByteArray) pos hps ha
 rw [hs] at h3
 obtain ⟨⟨r,w⟩,hrw⟩:∃ x,Utf8.decode (⟨(l.map UInt8.ofNat).toArray⟩:ByteArray) pos=x:=⟨_,rfl⟩
 rw [hrw] at h1 h2 h3
 simp only at h1 h2 h3
 refine ⟨r,w,hrw,h1.1,h2,h1.2,h3.1,fun k hk h4 h5=>?_⟩
 have h6:=h3.2 (k - pos) (by omega)
 rw [show pos+(k - pos)=k by omega,bytes_get hl hk] at h6
 exact h6
def anyK (l:List Nat):Bool:=l.any fun c=>decide (c∈K3)
theorem XI {r:Int} (h:128≤r):RI r = -1:=by unfold RI; rw [if_neg (by omega)]
theorem Od (c:Nat) (h:c < 128):(0≤RI (c:Int))↔c∈K3:=by
 unfold RI
 rw [if_pos (by omega),Int.toNat_natCast]
 have:=Tg (c:=c) (l:=K3) (n:=0)
 constructor
 · intro h1
   by_cases h2:c∈K3
   · exact h2
   · exact absurd (this.2 h2) (by omega)
 · intro h1
   by_cases h2:idxB c 0 K3 < 0
   · exact absurd h1 (this.1 h2)
   · omega
theorem SR {l:List Nat} {i:Nat} (h:i < l.length) (hm:l[i]∈K3):anyK l=true:=by
 unfold anyK
 rw [List.any_eq_true]
 exact ⟨_,List.getElem_mem h,by simpa using hm⟩
theorem LK {l:List Nat} (h:∀ i (hi:i < l.length),l[i]∉K3):anyK l=false:=by
 unfold anyK
 rw [List.any_eq_false]
 intro x hx
 obtain ⟨i,hi,rfl⟩:=List.mem_iff_getElem.1 hx
 simpa using h i hi
theorem Lh (n:Int) (s:St):(lim prog).call Bz [.i .i64 n] s=some (.b (decide (8 < n)),s):=by
 refine fn_W GV rfl rfl ?_
 simp only [Ba,go_sem,Al,AL,AK,AM,Ak,KB_n,KB_x,Nat.reduceBEq,Nat.reduceAdd,Nat.reduceLT,Nat.reduceLeDiff,Nat.reduceEqDiff,reduceIte,Int.reduceEq,reduceCtorEq]
 exact AP (Over.enter s) rfl rfl
def IAP (l:List Nat) (s:St) (r:AV) (s':St):Prop:=s'=s∧∃ z:Int,r=.i .i64 z∧(decide (0≤z))=anyK l
theorem KH_i {s s2:St} {l:List Nat} {z:Int} (hov:Over s s2) (h:decide (0≤z)=anyK l):KH s [CT.id] (IAP l s) (some ([.i .i64 z],s2)):=by
 refine ⟨_,_,rfl,?_⟩
 show IAP l s (.i .i64 z) (leave s s2 (.i .i64 z))
 rw [hov.leave rfl]
 exact ⟨rfl,z,rfl,h⟩
theorem SS (l:List Nat) (hl:Txt l) (s:St) (hw:Wf s):∃ r s',(lim prog).call E6 [.s l,.s K3] s=some (r,s')∧IAP l s r s':=by
 refine fn_G (Post:=IAP l s) KM rfl rfl ?_
 have hlen:=hl.len
 have k1:((K3:List Nat)=[])=False:=by simp
 have k2:((3:Int)=1)=False:=by simp
 have hkl:List.length K3=3:=rfl
 have ia_cin:Bg.cin=[.id,.id]:=rfl
 have ia_res:Bg.res=[(4,none)]:=rfl
 have ia_cout:Bg.cout=[.id]:=rfl
 rw [cN,ia_cin,ia_res,ia_cout]
 by_cases h8:(8:Int) < (l.length:Int)
 · have hmk:=mk_ok s.enter hw.enter
   have hb0:(s.enter.new (.cells 106 Z256)).box? s.enter.nb=some (.cells 106 (bs F256)):=BG s.enter _
   have st:=bs_st hb0 XH len0
   rw [Mp] at st
   obtain ⟨s1,hs1⟩:∃ s1,s.enter.new (.cells 106 (bs B3))=s1:=⟨_,rfl⟩
   have hb1:s1.box? s.enter.nb=some (.cells 106 (bs B3)):=by rw [← hs1]; exact BG s.enter _
   have ov1:Over s s1:=by rw [← hs1]; exact (Over.enter s).new _
   rw [hs1] at st
   have hcells:(AV.agg (bs B3)).cells.length=256:=by show (bs B3).length=256; simpa using XH
   simp only [go_sem,Al,AL,AK,AM,Ak,KB_n,KB_x,Nat.reduceBEq,Nat.reduceAdd,Nat.reduceLT,Nat.reduceLeDiff,Nat.reduceEqDiff,reduceIte,Int.reduceEq,reduceCtorEq,A3,hkl,Int.cast_ofNat_Int,k1,k2,Lh,h8,hmk,st]
   refine Br (fun n e q=>∃ i:Nat,i+n=l.length∧q=s1∧e.get 0=.s l∧e.get 6=.p s.enter.nb 0∧e.get 8=.i .i64 i∧∀ (j:Nat) (hj:j < l.length),j < i→l[j]∉K3) ?_ l.length _ _ ?_
   · rintro n e q ⟨i,hi,rfl,g0,g6,g8,hno⟩
     simp only [go_sem,Al,AL,AK,AM,Ak,KB_n,KB_x,Nat.reduceBEq,Nat.reduceAdd,Nat.reduceLT,Nat.reduceLeDiff,Nat.reduceEqDiff,reduceIte,Int.reduceEq,reduceCtorEq,g0,g8,A3]
     refine TM (fun hlt=>?_) (fun hge=>?_)
     · have hlt:i < l.length:=by omega
       have hget:l[i]? = some l[i]:=List.getElem?_eq_getElem hlt
       have h256:=hl.lt l[i] (List.getElem_mem hlt)
       have hc:=SQ hb1 h256 (b3_get h256)
       simp only [go_sem,Al,AL,AK,AM,Ak,KB_n,KB_x,Nat.reduceBEq,Nat.reduceAdd,Nat.reduceLT,Nat.reduceLeDiff,Nat.reduceEqDiff,reduceIte,Int.reduceEq,reduceCtorEq,g0,g6,g8,Ip,hget,A3,hc]
       refine TM (fun hm=>?_) (fun hm=>?_)
       · exact KH_i ov1 (by rw [SR hlt hm]; simp)
       · simp only [go_sem,Al,AL,AK,AM,Ak,KB_n,KB_x,Nat.reduceBEq,Nat.reduceAdd,Nat.reduceLT,Nat.reduceLeDiff,Nat.reduceEqDiff,reduceIte,Int.reduceEq,reduceCtorEq,Aj (show i+1 < 2^63 by omega),g0,g6,g8]
         refine ⟨n - 1,by omega,i+1,by omega,rfl,fun j hj hji=>?_⟩
         by_cases hje:j=i
         · subst hje; exact hm
         · exact hno j hj (by omega)
     · exact KH_i ov1 (by rw [LK fun j hj=>hno j hj (by omega)]; decide)
   · simp only [go_sem,Al,AL,AK,AM,Ak,KB_n,KB_x,Nat.reduceBEq,Nat.reduceAdd,Nat.reduceLT,Nat.reduceLeDiff,Nat.reduceEqDiff,reduceIte,Int.reduceEq,reduceCtorEq]
     exact ⟨0,by omega,rfl,fun j hj h=>by omega⟩
 · have hsi:∀ p p',(s.enter.new (.siter l p)).setBox s.enter.nb (.siter l p')=s.enter.new (.siter l p'):=fun p p'=>Mp _ _ _
   simp only [go_sem,Al,AL,AK,AM,Ak,KB_n,KB_x,Nat.reduceBEq,Nat.reduceAdd,Nat.reduceLT,Nat.reduceLeDiff,Nat.reduceEqDiff,reduceIte,Int.reduceEq,reduceCtorEq,A3,hkl,Int.cast_ofNat_Int,k1,k2,Lh,h8]
   refine Br (fun n e q=>∃ i:Nat,i+n=l.length∧q=s.enter.new (.siter l i)∧e.get 1=.s K3∧e.get 45=.p s.enter.nb 0∧∀ (j:Nat) (hj:j < l.length),j < i→l[j]∉K3) ?_ l.length _ _ ?_
   · rintro n e q ⟨i,hi,rfl,g1,g45,hno⟩
     have ov1:∀ p,Over s (s.enter.new (.siter l p)):=fun p=>(Over.enter s).new _
     by_cases hlt:i < l.length
     · have hget:l[i]? = some l[i]:=List.getElem?_eq_getElem hlt
       by_cases h128:l[i] < 128
       · have h128':(l[i] < 128)=True:=by simp [h128]
         have hr:=Lg (l[i]:Int) (by omega) (by omega)
         simp only [go_sem,Al,AL,AK,AM,Ak,KB_n,KB_x,Nat.reduceBEq,Nat.reduceAdd,Nat.reduceLT,Nat.reduceLeDiff,Nat.reduceEqDiff,reduceIte,Int.reduceEq,reduceCtorEq,g1,g45,hget,h128',A3,hsi,hr]
         refine TM (fun hm=>?_) (fun hm=>?_)
         · exact KH_i (ov1 _) (by rw [SR hlt ((Od _ h128).1 hm)]; simp)
         · trace_state
           refine ⟨n - 1,by omega,i+1,by omega,rfl,fun j hj hji=>?_⟩
           by_cases hje:j=i
           · subst hje; exact fun hh=>hm ((Od _ h128).2 hh)
           · exact hno j hj (by omega)
       · have h128':(l[i] < 128)=False:=by simp [h128]
         obtain ⟨r,w,e1,e2,e3,e4,e5,e6⟩:=ZM hl.lt hlt (by omega)
         have hr:=Lg (r:Int) (by omega) (by omega)
         rw [XI (by omega)] at hr
         have hm1:((0:Int) ≤ -1)=False:=by simp
         simp only [go_sem,Al,AL,AK,AM,Ak,KB_n,KB_x,Nat.reduceBEq,Nat.reduceAdd,Nat.reduceLT,Nat.reduceLeDiff,Nat.reduceEqDiff,reduceIte,Int.reduceEq,reduceCtorEq,g1,g45,hget,h128',A3,hsi,e1,hr,hm1]
         refine ⟨n - w,by omega,i+w,by omega,rfl,fun j hj hji=>?_⟩
         by_cases hje:j < i
         · exact hno j hj hje
         · have:=e6 j hj (by omega) hji
           simp only [List.mem_cons,List.not_mem_nil,or_false]
           omega
     · have hget:l[i]? = none:=List.getElem?_eq_none (by omega)
       simp only [go_sem,Al,AL,AK,AM,Ak,KB_n,KB_x,Nat.reduceBEq,Nat.reduceAdd,Nat.reduceLT,Nat.reduceLeDiff,Nat.reduceEqDiff,reduceIte,Int.reduceEq,reduceCtorEq,g1,g45,hget]
       exact KH_i (ov1 _) (by rw [LK fun j hj=>hno j hj (by omega)]; decide)
   · simp only [go_sem,Al,AL,AK,AM,Ak,KB_n,KB_x,Nat.reduceBEq,Nat.reduceAdd,Nat.reduceLT,Nat.reduceLeDiff,Nat.reduceEqDiff,reduceIte,Int.reduceEq,reduceCtorEq]
     exact ⟨0,by omega,rfl,fun j hj h=>by omega⟩
theorem N7 (l:List Nat) (hl:Txt l) (s:St) (hw:Wf s):(lim prog).call D4 [.s l,.s K3] s=some (.b (anyK l),s):=by
 refine fn_W Ii rfl rfl ?_
 obtain ⟨r,s',h,rfl,z,rfl,hz⟩:=SS l hl s.enter hw.enter
 simp only [CX,go_sem,Al,AL,AK,AM,Ak,KB_n,KB_x,Nat.reduceBEq,Nat.reduceAdd,Nat.reduceLT,Nat.reduceLeDiff,Nat.reduceEqDiff,reduceIte,Int.reduceEq,reduceCtorEq,h]
 exact AP (Over.enter s) rfl (by rw [hz]; rfl)
def Fh (l:List Nat):Bool:=decide (l≠[])&&(decide (l.length≤64)&&(decide (l≠[46])&&(decide (l≠[46,46])&&!anyK l)))
theorem XJ (l:List Nat) (hl:Txt l) (s:St) (hw:Wf s):(lim prog).call Hk [.s l] s=some (.b (Fh l),s):=by
 refine fn_W R3 rfl rfl ?_
 have hc:=N7 l hl s.enter hw.enter
 have hk:∀ b,b=Fh l→KR s [CT.id] (.b (Fh l)) (some ([.b b],s.enter)):=fun b hb=>AP (Over.enter s) rfl (by rw [hb]; rfl)
 have h64i:∀ h:l.length≤64,(((l.length:Nat):Int)≤64)=True:=fun h=>by simp; omega
 by_cases h1:l=[]
 · have h1':(l≠[])=False:=by simp [h1]
   simp only [De,go_sem,Al,AL,AK,AM,Ak,KB_n,KB_x,Nat.reduceBEq,Nat.reduceAdd,Nat.reduceLT,Nat.reduceLeDiff,Nat.reduceEqDiff,reduceIte,Int.reduceEq,reduceCtorEq,h1']
   exact hk _ (by simp [Fh,h1])
 · have h1':(l≠[])=True:=by simp [h1]
   by_cases h2:l.length≤64
   · have h2':=h64i h2
     by_cases h3:l=[46]
     · have h3':(l≠[46])=False:=by simp [h3]
       simp only [De,go_sem,Al,AL,AK,AM,Ak,KB_n,KB_x,Nat.reduceBEq,Nat.reduceAdd,Nat.reduceLT,Nat.reduceLeDiff,Nat.reduceEqDiff,reduceIte,Int.reduceEq,reduceCtorEq,A3,h1',h2',h3']
       exact hk _ (by simp [Fh,h3])
     · have h3':(l≠[46])=True:=by simp [h3]
       by_cases h4:l=[46,46]
       · have h4':(l≠[46,46])=False:=by simp [h4]
         simp only [De,go_sem,Al,AL,AK,AM,Ak,KB_n,KB_x,Nat.reduceBEq,Nat.reduceAdd,Nat.reduceLT,Nat.reduceLeDiff,Nat.reduceEqDiff,reduceIte,Int.reduceEq,reduceCtorEq,A3,h1',h2',h3',h4']
         exact hk _ (by simp [Fh,h4])
       · have h4':(l≠[46,46])=True:=by simp [h4]
         simp only [De,go_sem,Al,AL,AK,AM,Ak,KB_n,KB_x,Nat.reduceBEq,Nat.reduceAdd,Nat.reduceLT,Nat.reduceLeDiff,Nat.reduceEqDiff,reduceIte,Int.reduceEq,reduceCtorEq,A3,h1',h2',h3',h4',hc]
         exact hk _ (by simp [Fh,h1,h2,h3,h4])
   · have h2':(((l.length:Nat):Int)≤64)=False:=by simp; omega
     simp only [De,go_sem,Al,AL,AK,AM,Ak,KB_n,KB_x,Nat.reduceBEq,Nat.reduceAdd,Nat.reduceLT,Nat.reduceLeDiff,Nat.reduceEqDiff,reduceIte,Int.reduceEq,reduceCtorEq,A3,h1',h2']
     exact hk _ (by simp [Fh,h2])

mutual
def FF:ND→Bool
 | .mk k t ns ks=>if k=1∨k=3 then decide (ns=[])&&(decide (ks.length=0)&&(decide (t.length≤256)&&(!t.contains 0&&(decide (k=1)||decide (t≠[]))))) else
   if k=2 then decide (t=[])&&(decide (ns.length=ks.length)&&Fg none ns ks) else false
def Fg:Option (List Nat)→List (List Nat)→List ND→Bool
 | _,_,[]=>true
 | _,[],_::_=>true
 | p,s::ns,k::ks=>Fh s&&((match p with | none=>true | some q=>ltN q s)&&(FF k&&Fg (some s) ns ks))
end
theorem idxB0:∀ (t:List Nat) (n:Nat),(decide (idxB 0 n t < 0))=!t.contains 0
 | [],n=>by simp [idxB]
 | a :: t,n=>by
   cases h:Nat.beq a 0 with
   | true =>
     have:a=0:=by simpa using h
     subst this
     simp [idxB]
   | false =>
     have h1:a≠0:=by intro hh; subst hh; simp at h
     simp only [idxB,h,cond_false,idxB0 t (n+1)]
     have:(a==0)=false:=by simp [h1]
     simp [List.contains_cons,h1,eq_comm]
theorem Ld (x y:List Nat):Am.binOp .leq (.s x) (.s y)=some (.b (ltN x y||beqN x y)):=by simp [Am.binOp,Rc]
theorem KZ:∀ (a b:List Nat),(ltN a b||beqN a b)=!ltN b a
 | [],[]=>rfl
 | [],_::_=>rfl
 | _::_,[]=>rfl
 | a :: x,b::y=>by
   have:=KZ x y
   simp only [ltN,beqN]
   rcases Nat.lt_trichotomy a b with h | h | h
   · have e1:Nat.blt a b=true:=by rw [Nat.blt_eq]; exact h
     have e2:Nat.blt b a=false:=by rw [Bool.eq_false_iff]; intro hh; rw [Nat.blt_eq] at hh; omega
     have e3:Nat.beq b a=false:=by rw [Bool.eq_false_iff]; intro hh; rw [Nat.beq_eq] at hh; omega
     simp [e1,e2,e3]
   · subst h
     have e1:Nat.blt a a=false:=by rw [Bool.eq_false_iff]; intro hh; rw [Nat.blt_eq] at hh; omega
     simp only [e1,Nat.beq_refl,Bool.true_and,Bool.false_or,this]
   · have e1:Nat.blt b a=true:=by rw [Nat.blt_eq]; exact h
     have e2:Nat.blt a b=false:=by rw [Bool.eq_false_iff]; intro hh; rw [Nat.blt_eq] at hh; omega
     have e3:Nat.beq a b=false:=by rw [Bool.eq_false_iff]; intro hh; rw [Nat.beq_eq] at hh; omega
     simp [e1,e2,e3]
theorem LI:∀ (p:Option (List Nat)) (ns:List (List Nat)) (ks:List ND) (s:List Nat) (k:ND),ns.length=ks.length →
    Fg p (ns++[s]) (ks++[k])=(Fg p ns ks&&(Fh s&&((match ns.getLast?.or p with | none=>true | some q=>ltN q s)&&FF k)))
 | p,[],[],s,k,_=>by
   simp only [List.nil_append,Fg,Bool.and_true,Bool.true_and,List.getLast?_nil,Option.none_or]
 | p, a::ns,b::ks,s,k,h=>by
   simp only [List.length_cons,Nat.add_right_cancel_iff] at h
   simp only [List.cons_append,Fg,LI (some a) ns ks s k h,Bool.and_assoc]
   have:(a::ns).getLast?.or p=(ns.getLast?.or (some a)):=by
    cases ns with
    | nil=>rfl
    | cons c ns =>
      cases hns:(c::ns).getLast? with
      | none=>simp at hns
      | some v=>rw [List.getLast?_cons_cons,hns]; rfl
   rw [this]
 | _,[],_::_,_,_,h=>by simp at h
 | _,_::_,[],_,_,h=>by simp at h
theorem LJ (n:ND):∀ (p:Option (List Nat)) (ns:List (List Nat)) (ks:List ND) (i:Nat),Fg p ns ks=true→Fg p (ns.take i) (ks.take i)=true
 | _,_,_,0,_=>by simp [Fg]
 | _,_,[],i+1,_=>by simp [Fg]
 | _,[],_::_,i+1,_=>by simp [Fg]
 | p,s::ns,k::ks,i+1,h=>by
   simp only [List.take_succ_cons,Fg,Bool.and_eq_true] at h ⊢
   exact ⟨h.1,h.2.1,h.2.2.1,LJ n (some s) ns ks i h.2.2.2⟩

def segs:List Nat→List Nat→List (List Nat)
 | cur,[]=>[cur]
 | cur,c::l=>if c=47 then cur::segs [] l else segs (cur++[c]) l
def splitL (l:List Nat):List (List Nat):=segs [] l
theorem I8 {s s1:St} {v:AV} (h:v.refs=true):leave s s1 v={ s1 with lo:=min s.lo s1.lo }:=by
 unfold Am.leave
 rw [h,Bool.not_true,Bool.and_false,if_neg (by simp)]

def stepOk (x:List Nat):Bool:=decide (x≠[])&&decide (x≠[46])
def cnt (l:List Nat) (j:Nat):Nat:=(((splitL l).take j).filter stepOk).length

/-! ### Clean -/



theorem cQ (l:List Nat):anyK l=false↔∀ (i:Nat) (h:i < l.length),l[i]≠0∧l[i]≠47∧l[i]≠10:=by
 constructor
 · intro h i hi
   unfold anyK at h
   rw [List.any_eq_false] at h
   have:=h l[i] (List.getElem_mem hi)
   simp only [List.mem_cons,List.not_mem_nil,or_false,decide_eq_true_eq,not_or] at this
   exact ⟨this.2.1,this.1,this.2.2⟩
 · intro h
   refine LK fun i hi=>?_
   obtain ⟨h1,h2,h3⟩:=h i hi
   simp [h1,h2,h3]
theorem Ua (l:List Nat) (hl:l.length < 2^63) (s:St):(lim prog).call Dt [.s l] s=some (.b (Fh l),s):=by
 refine fn_W ID rfl rfl ?_
 have hk:∀ b,b=Fh l→KR s [CT.id] (.b (Fh l)) (some ([.b b],s.enter)):=fun b hb=>AP (Over.enter s) rfl (by rw [hb]; rfl)
 by_cases h1:l=[]
 · have h1':(l=[])=True:=by simp [h1]
   simp only [A7,go_sem,Al,AL,AK,AM,Ak,KB_n,KB_x,Nat.reduceBEq,Nat.reduceAdd,Nat.reduceLT,Nat.reduceLeDiff,Nat.reduceEqDiff,reduceIte,Int.reduceEq,reduceCtorEq,h1']
   exact hk _ (by simp [Fh,h1])
 have h1':(l=[])=False:=by simp [h1]
 by_cases h2:(64:Int) < (l.length:Int)
 · simp only [A7, go_sem,Al,AL,AK,AM,Ak,KB_n,KB_x,Nat.reduceBEq,Nat.reduceAdd,Nat.reduceLT,Nat.reduceLeDiff,Nat.reduceEqDiff,reduceIte,Int.reduceEq,reduceCtorEq,h1',A3,h2]
   exact hk _ (by have:¬ l.length≤64:=by omega
                  simp [Fh,this])
 by_cases h3:l=[46]
 · have h3':(l=[46])=True:=by simp [h3]
   simp only [A7,go_sem,Al,AL,AK,AM,Ak,KB_n,KB_x,Nat.reduceBEq,Nat.reduceAdd,Nat.reduceLT,Nat.reduceLeDiff,Nat.reduceEqDiff,reduceIte,Int.reduceEq,reduceCtorEq,h1',A3,h2,h3']
   exact hk _ (by simp [Fh,h3])
 have h3':(l=[46])=False:=by simp [h3]
 by_cases h4:l=[46,46]
 · have h4':(l=[46,46])=True:=by simp [h4]
   simp only [A7,go_sem,Al,AL,AK,AM,Ak,KB_n,KB_x,Nat.reduceBEq,Nat.reduceAdd,Nat.reduceLT,Nat.reduceLeDiff,Nat.reduceEqDiff,reduceIte,Int.reduceEq,reduceCtorEq,h1',A3,h2,h3',h4']
   exact hk _ (by simp [Fh,h4])
 have h4':(l=[46,46])=False:=by simp [h4]
 have hle:l.length≤64:=by omega
 have hN:Fh l=!anyK l:=by simp [Fh,h1,h3,h4,hle]
 simp only [A7,go_sem,Al,AL,AK,AM,Ak,KB_n,KB_x,Nat.reduceBEq,Nat.reduceAdd,Nat.reduceLT,Nat.reduceLeDiff,Nat.reduceEqDiff,reduceIte,Int.reduceEq,reduceCtorEq,h1',A3,h2,h3',h4']
 refine Br (fun n e q=>s.enter=q∧e.get 0=.s l∧∃ i:Nat,i+n=l.length∧e.get 3=.i .i64 i∧∀ (j:Nat) (h:j < l.length),j < i→l[j]≠0∧l[j]≠47∧l[j]≠10) ?_ l.length _ _ ?_
 · rintro n e q ⟨rfl,g0,i,hi,g3,hno⟩
   simp only [go_sem,Al,AL,AK,AM,Ak,KB_n,KB_x,Nat.reduceBEq,Nat.reduceAdd,Nat.reduceLT,Nat.reduceLeDiff,Nat.reduceEqDiff,reduceIte,Int.reduceEq,reduceCtorEq,g0,g3,A3]
   refine TM (fun hlt=>?_) (fun hge=>?_)
   · have hlt:i < l.length:=by omega
     have hget:l[i]? = some l[i]:=List.getElem?_eq_getElem hlt
     obtain ⟨c,hc⟩:∃ c,l[i]=c:=⟨_,rfl⟩
     rw [hc] at hget
     have hbad:c∈K3→Fh l=false:=fun hm=>by rw [hN,SR hlt (by rw [hc]; exact hm)]; rfl
     by_cases c0:c=0
     · have c0':((c:Int)=0)=True:=by simp [c0]
       simp only [go_sem,Al,AL,AK,AM,Ak,KB_n,KB_x,Nat.reduceBEq,Nat.reduceAdd,Nat.reduceLT,Nat.reduceLeDiff,Nat.reduceEqDiff,reduceIte,Int.reduceEq,reduceCtorEq,g0,g3,Ip,hget,A3,c0']
       exact hk _ (hbad (by simp [c0])).symm
     have c0':((c:Int)=0)=False:=by simp; omega
     by_cases c1:c=47
     · have c1':((c:Int)=47)=True:=by simp; omega
       simp only [go_sem,Al,AL,AK,AM,Ak,KB_n,KB_x,Nat.reduceBEq,Nat.reduceAdd,Nat.reduceLT,Nat.reduceLeDiff,Nat.reduceEqDiff,reduceIte,Int.reduceEq,reduceCtorEq,g0,g3,Ip,hget,A3,c0',c1']
       exact hk _ (hbad (by simp [c1])).symm
     have c1':((c:Int)=47)=False:=by simp; omega
     by_cases c2:c=10
     · have c2':((c:Int)=10)=True:=by simp; omega
       simp only [go_sem,Al,AL,AK,AM,Ak,KB_n,KB_x,Nat.reduceBEq,Nat.reduceAdd,Nat.reduceLT,Nat.reduceLeDiff,Nat.reduceEqDiff,reduceIte,Int.reduceEq,reduceCtorEq,g0,g3,Ip,hget,A3,c0',c1',c2']
       exact hk _ (hbad (by simp [c2])).symm
     have c2':((c:Int)=10)=False:=by simp; omega
     simp only [go_sem,Al,AL,AK,AM,Ak,KB_n,KB_x,Nat.reduceBEq,Nat.reduceAdd,Nat.reduceLT,Nat.reduceLeDiff,Nat.reduceEqDiff,reduceIte,Int.reduceEq,reduceCtorEq,g0,g3,Ip,hget,A3,c0',c1',c2',Aj (show i+1 < 2^63 by omega)]
     refine ⟨n - 1,by omega,i+1,by omega,rfl,fun j hj hji=>?_⟩
     by_cases hje:j=i
     · subst hje; rw [hc]; exact ⟨c0,c1,c2⟩
     · exact hno j hj (by omega)
   · exact hk _ (by rw [hN,(cQ l).2 fun i hi=>hno i hi (by omega)]; rfl)
 · simp only [go_sem,Al,AL,AK,AM,Ak,KB_n,KB_x,Nat.reduceBEq,Nat.reduceAdd,Nat.reduceLT,Nat.reduceLeDiff,Nat.reduceEqDiff,reduceIte,Int.reduceEq,reduceCtorEq]
   exact ⟨0,by omega,rfl,fun j hj h=>by omega⟩
theorem Ub {es t0 T:Nat} {s:St} {a:AV} {xs:List AV} (hr:RowP es t0 s T a xs):(a=.nsl∧xs=[])∨∃ k v,a=.sl es xs (.tok k v):=by
 rcases hr with h | ⟨k,v,t,rfl,_⟩
 · exact .inl h
 · exact .inr ⟨k,v,rfl⟩

theorem Yg:(1≤1)=True:=by simp
theorem WM (s:St):(lim prog).call AN [tx []] s=some (.ws true 1 [],{ s with lo:=min s.lo s.nb }):=by
 rw [Fk]
 unfold Gp
 rw [Cm]
 have h1:wkZ AG.cin [tx []]=[.ws false 1 []]:=by
  simp [AG,wkZ,wk,wkM]
 have h2:both AG [.ws false 1 []]=some (.ws true 1 []):=by rfl
 have h3:Nat.ble [tx []].length AG.ntmps=true:=rfl
 have h4:AG.prim=none:=rfl
 simp only [h4,h3,h1,h2]
theorem UI (x:List Nat) (L:List (List Nat)) (hL:(x::L).length < 2^38) (s:St) :
    (lim prog).call AN [tx (x::L)] s=some (.sl 1 ((x::L).map .s) (.tok s.nt 0),{ s.newTok (x::L).length (some 9) with lo:=min s.lo s.nb }):=by
 have h1:wkZ AG.cin [tx (x::L)]=[tx (x::L)]:=by
  have:=(VE (x::L)).wk
  simp only [AG,wkZ,this]
 obtain ⟨r,s',hc,rfl,rfl⟩:=fn_K (t:=2) (s:=s) (args:=[tx (x::L)]) (Post:=fun r s'=>r=.sl 1 ((x::L).map .s) (.tok s.nt 0)∧s'={ s.newTok (x::L).length (some 9) with lo:=min s.lo s.nb }) Cm rfl rfl rfl (by rw [h1]; rfl) (by
  rw [h1]
  have heq:eqS (tx (x::L)) .nsl=some false:=rfl
  have ha:appA s.enter 1 9 (.sl 1 [] .full) (tx (x::L))=some (.sl 1 ((x::L).map .s) (.tok s.nt 0),s.enter.newTok (x::L).length (some 9)):=by
   simp only [tx,List.map_cons,appA,elems,if_true,List.nil_append,List.length_nil,Nat.zero_add,true_and]
   rw [if_pos (by simpa using hL)]
   simp [St.enter]
  have hal:Ah 1 []=true:=rfl
  simp only [AG,go_sem,Al,AL,AK,AM,Ak,KB_n,KB_x,Nat.reduceBEq,Nat.reduceAdd,Nat.reduceLT,Nat.reduceLeDiff,Nat.reduceEqDiff,reduceIte,Int.reduceEq,reduceCtorEq,heq,hal,Yg,ha,KK_n,KK_r]
  rfl)
 exact hc
theorem TN {s0 s:St} {n:En} {R:List RA} {B:List (Nat×Box)} (H:Hp s0 s n R B) (L:List (List Nat)) (hL:L.length < 2^38) :
    ∃ r s',(lim prog).call AN [tx L] s=some (r,s')∧Hp s0 s' n (⟨1,9,r,L.map .s,true⟩::R) B∧s'.nb=s.nb:=by
 have hlo:=H.lo
 have h1:=H.over.lo
 have h2:=H.over.nb
 cases L with
 | nil =>
   refine ⟨_,_,WM s,?_,rfl⟩
   exact (H.setLo (m:=min s.lo s.nb) (by omega) (by omega)).addFull 1 9 true .ws
 | cons x L =>
   refine ⟨_,_,UI x L hL s,?_,rfl⟩
   have:=H.newTok 1 9 ((x::L).map .s)
   rw [List.length_map] at this
   exact this.setLo (m:=min s.lo s.nb) (by omega) (by omega)
end Go.Proofs.YtgloinighjdhlaaGreat

set_option maxHeartbeats 2000000
namespace Go.Proofs.YtgloinighjdhlaaGreat
open Go.Proofs.YtgloinighjdhlaaGreat.Am
attribute [local irreducible] W WO WE WQ WD Tr.get Tr.set
def zx (L:List Int):AV:=.ws false 1 (L.map iv)
def FT.cells (f:FT):List AV:=[.b f.known,.i .u8 (f.kind:Nat),tx f.names,zx f.kids,.i .i64 f.rest,.i .i64 f.beside]
def FT.av (f:FT):AV:=.agg f.cells
def fx (l:List FT):AV:=.ws false 6 (l.map FT.av)
structure FT.Ok (f:FT):Prop where
 kind:f.kind < 256
 names:∀ l∈f.names,Txt l∧l.length < 2^62
 nlen:f.names.length < 2^34
 klen:f.kids.length < 2^34
def FT.isDir (f:FT):Bool:=f.known&&decide (f.kind=2)
def ascN:Option (List Nat)→List (List Nat)→Bool
 | _,[]=>true
 | p,s::ns=>Fh s&&((match p with | none=>true | some q=>ltN q s)&&ascN (some s) ns)
theorem Qq:∀ (p:Option (List Nat)) (ns:List (List Nat)) (s:List Nat),
    ascN p (ns++[s])=(ascN p ns&&(Fh s&&(match ns.getLast?.or p with | none=>true | some q=>ltN q s)))
 | p,[],s=>by
   simp only [List.nil_append,ascN,Bool.and_true,Bool.true_and,List.getLast?_nil,Option.none_or]
 | p, a::ns,s=>by
   simp only [List.cons_append,ascN,Qq (some a) ns s,Bool.and_assoc]
   have:(a::ns).getLast?.or p=(ns.getLast?.or (some a)):=by
    cases ns with
    | nil=>rfl
    | cons c ns =>
      cases hns:(c::ns).getLast? with
      | none=>simp at hns
      | some v=>rw [List.getLast?_cons_cons,hns]; rfl
   rw [this]
theorem Qr:∀ (p:Option (List Nat)) (ns:List (List Nat)) (i:Nat),ascN p ns=true→ascN p (ns.take i)=true
 | _,_,0,_=>by simp [ascN]
 | _,[],i+1,_=>by simp [ascN]
 | p,s::ns,i+1,h=>by
   simp only [List.take_succ_cons,ascN,Bool.and_eq_true] at h ⊢
   exact ⟨h.1,h.2.1,Qr (some s) ns i h.2.2⟩
def FT.restB (f:FT):Bool:=if f.rest=2 then decide (0≤f.beside)&&decide (f.beside≤(f.names.length:Int)) else (decide (f.rest=0)||decide (f.rest=1))&&decide (f.beside=0)
def FT.bad (f:FT):Bool:=decide (3 < f.kind)||((!f.known&&decide (f.kind≠0))||decide (f.names.length≠f.kids.length))
def FT.one (f:FT):Bool:=!f.bad&&(if f.isDir then ascN none f.names&&f.restB else decide (f.names.length=0)&&(decide (f.rest=0)&&decide (f.beside=0)))
theorem Dy (f:FT):f.cells.length=6:=rfl
theorem JH {l:List FT} {i:Nat} {f:FT} (h:l[i]? = some f):(l.map FT.av)[i]? = some (.agg f.cells):=by
 rw [List.getElem?_map,h]; rfl
theorem E9 (f:FT) (s:St):ldA s true 6 (.ep f.cells 0 .shut)=some (.agg f.cells):=rfl
theorem BH (f:FT) (s:St):pubL s f.cells=some (f.cells,s):=rfl
theorem Zj (f:FT) (s:St) (hw:Wf s):(lim prog).call J7 [.agg f.cells] s=some (.b f.isDir,s):=by
 refine fn_W WK rfl rfl ?_
 have H1:=(Hp.begin hw).new (.cells 48 f.cells)
 generalize hq:s.enter.new (.cells 48 f.cells)=q at H1
 generalize hm:s.enter.nb=m at H1
 have l0:=H1.ld 0 (off:=0) (v:=.b f.known) rfl rfl
 have l1:=H1.ld 0 (off:=1) (v:=.i .u8 (f.kind:Nat)) rfl rfl
 have hz0:wkZ Fu.cin [.agg f.cells]=[.agg f.cells]:=by simp [Fu,wkZ,wk,FT.cells,zx]
 rw [hz0]
 have hbr:∀ b,KR s [.id] (.b b) (some ([.b b],q)):=fun b=>AP H1.over rfl rfl
 have e1:((f.kind:Int)=2)=(f.kind=2):=by simp only [eq_iff_iff]; omega
 unfold FT.isDir
 cases hk:f.known
 · rw [hk] at l0
   simp only [Fu,go_sem,AD,AA,AC,AB,KB_n,KB_x,Nat.reduceBEq,Nat.reduceAdd,Nat.reduceLT,Nat.reduceLeDiff,Nat.reduceEqDiff,reduceIte,Int.reduceEq,reduceCtorEq,Dy,hq,hm,l0,l1,Nat.zero_add,e1,Bool.false_and]
   exact hbr _
 · rw [hk] at l0
   simp only [Fu,go_sem,AD,AA,AC,AB,KB_n,KB_x,Nat.reduceBEq,Nat.reduceAdd,Nat.reduceLT,Nat.reduceLeDiff,Nat.reduceEqDiff,reduceIte,Int.reduceEq,reduceCtorEq,Dy,hq,hm,l0,l1,Nat.zero_add,e1,Bool.true_and]
   exact hbr _
theorem SB (f:FT) (s:St) (hw:Wf s):(lim prog).call DG [.agg f.cells] s=some (.b f.isDir,s):=by
 refine fn_W My rfl rfl ?_
 have H1:=(Hp.begin hw).new (.cells 48 f.cells)
 generalize hq:s.enter.new (.cells 48 f.cells)=q at H1
 generalize hm:s.enter.nb=m at H1
 have l0:=H1.ld 0 (off:=0) (v:=.b f.known) rfl rfl
 have l1:=H1.ld 0 (off:=1) (v:=.i .u8 (f.kind:Nat)) rfl rfl
 have hz0:wkZ D7.cin [.agg f.cells]=[.agg f.cells]:=by simp [D7,wkZ,wk,FT.cells,zx]
 rw [hz0]
 have hbr:∀ b,KR s [.id] (.b b) (some ([.b b],q)):=fun b=>AP H1.over rfl rfl
 have e1:((f.kind:Int)=2)=(f.kind=2):=by simp only [eq_iff_iff]; omega
 unfold FT.isDir
 cases hk:f.known
 · rw [hk] at l0
   simp only [D7,go_sem,AD,AA,AC,AB,KB_n,KB_x,Nat.reduceBEq,Nat.reduceAdd,Nat.reduceLT,Nat.reduceLeDiff,Nat.reduceEqDiff,reduceIte,Int.reduceEq,reduceCtorEq,Dy,hq,hm,l0,l1,Nat.zero_add,e1,Bool.false_and]
   exact hbr _
 · rw [hk] at l0
   simp only [D7,go_sem,AD,AA,AC,AB,KB_n,KB_x,Nat.reduceBEq,Nat.reduceAdd,Nat.reduceLT,Nat.reduceLeDiff,Nat.reduceEqDiff,reduceIte,Int.reduceEq,reduceCtorEq,Dy,hq,hm,l0,l1,Nat.zero_add,e1,Bool.true_and]
   exact hbr _
end Go.Proofs.YtgloinighjdhlaaGreat

set_option maxHeartbeats 4000000
namespace Go.Proofs.YtgloinighjdhlaaGreat
open Go.Proofs.YtgloinighjdhlaaGreat.Am
attribute [local irreducible] W WO WE WQ WD Tr.get Tr.set
theorem PX {L:List (List Nat)} {i:Nat} {y:List Nat} (h:L[i]? = some y):(L.take (i+1)).getLast? = some y:=by
 rw [List.take_add_one,h]
 simp
theorem Yh (a b:Bool):(if (false=true) then a else b)=b:=rfl
theorem Yi (a b:Bool):(if (true=true) then a else b)=a:=rfl
theorem one_ok (f:FT) (ho:f.Ok) (s:St) (hw:Wf s):(lim prog).call Mx [.agg f.cells] s=some (.b f.one,s):=by
 refine fn_W WL rfl rfl ?_
 have H1:=(Hp.begin hw).new (.cells 48 f.cells)
 generalize hq:s.enter.new (.cells 48 f.cells)=q at H1
 generalize hm:s.enter.nb=m at H1
 have l0:=H1.ld 0 (off:=0) (v:=.b f.known) rfl rfl
 have l1:=H1.ld 0 (off:=1) (v:=.i .u8 (f.kind:Nat)) rfl rfl
 have l2:=H1.ld 0 (off:=2) (v:=tx f.names) rfl rfl
 have l3:=H1.ld 0 (off:=3) (v:=zx f.kids) rfl rfl
 have l4:=H1.ld 0 (off:=4) (v:=.i .i64 f.rest) rfl rfl
 have l5:=H1.ld 0 (off:=5) (v:=.i .i64 f.beside) rfl rfl
 have lw:=H1.ldw (m:=6) 0 rfl rfl
 have hz0:wkZ DC.cin [.agg f.cells]=[.agg f.cells]:=by simp [DC,wkZ,wk,FT.cells,zx]
 rw [hz0]
 have hbr:∀ b,KR s [.id] (.b b) (some ([.b b],q)):=fun b=>AP H1.over rfl rfl
 have hd:=Zj f q H1.wf
 unfold FT.one
 cases hb:f.bad
 · have hnb : ¬ (3 < f.kind)∧((!f.known&&decide (f.kind≠0))=false)∧f.names.length=f.kids.length:=by
    unfold FT.bad at hb
    simp only [Bool.or_eq_false_iff,decide_eq_false_iff_not,Decidable.not_not] at hb
    exact ⟨hb.1,hb.2.1,by simpa using hb.2.2⟩
   obtain ⟨a1,a2,a3⟩:=hnb
   have e1:((3:Int) < (f.kind:Int))=False:=eq_false (by omega)
   have e3:((f.names.length:Int)≠(f.kids.length:Int))=False:=by simp only [ne_eq,eq_iff_iff,iff_false]; omega
   have hx:∃ kn:Bool,f.known=kn∧((kn=false∧((f.kind:Int)≠0)=False)∨(kn=true∧(True=True))):=by
    cases hk:f.known
    · rw [hk] at a2
      exact ⟨_,rfl,.inl ⟨rfl,by simpa using a2⟩⟩
    · exact ⟨_,rfl,.inr ⟨rfl,rfl⟩⟩
   obtain ⟨kn,hk,hx⟩:=hx
   rw [hk] at l0
   rw [Bool.not_false,Bool.true_and]
   cases hi:f.isDir
   · rw [hi] at hd
     rw [Yh]
     by_cases d1:f.names.length=0
     · have r1:(((f.names.length:Nat):Int)=0)=True:=by simp [d1]
       by_cases d2:f.rest=0
       · have r2:(f.rest=0)=True:=by simp [d2]
         rw [decide_eq_true d1,decide_eq_true d2,Bool.true_and,Bool.true_and]
         rcases hx with ⟨rfl,e2⟩ | ⟨rfl,e2⟩<;>simp only [DC,go_sem,AD,AA,AC,AB,KB_n,KB_x,Nat.reduceBEq,Nat.reduceAdd,Nat.reduceLT,Nat.reduceLeDiff,Nat.reduceEqDiff,reduceIte,Int.reduceEq,reduceCtorEq,Dy,hq,hm,l0,l1,l2,l3,l4,l5,lw,hd,zx,Nat.zero_add,e1,e2,List.length_map,e3,r1,r2,BH]<;>exact hbr _
       · have r2:(f.rest=0)=False:=by simp [d2]
         rw [decide_eq_true d1,decide_eq_false d2,Bool.false_and,Bool.and_false]
         rcases hx with ⟨rfl,e2⟩ | ⟨rfl,e2⟩<;>simp only [DC,go_sem,AD,AA,AC,AB,KB_n,KB_x,Nat.reduceBEq,Nat.reduceAdd,Nat.reduceLT,Nat.reduceLeDiff,Nat.reduceEqDiff,reduceIte,Int.reduceEq,reduceCtorEq,Dy,hq,hm,l0,l1,l2,l3,l4,l5,lw,hd,zx,Nat.zero_add,e1,e2,List.length_map,e3,r1,r2,BH]<;>exact hbr _
     · have r1:(((f.names.length:Nat):Int)=0)=False:=eq_false (by omega)
       rw [decide_eq_false d1,Bool.false_and]
       rcases hx with ⟨rfl,e2⟩ | ⟨rfl,e2⟩<;>simp only [DC,go_sem,AD,AA,AC,AB,KB_n,KB_x,Nat.reduceBEq,Nat.reduceAdd,Nat.reduceLT,Nat.reduceLeDiff,Nat.reduceEqDiff,reduceIte,Int.reduceEq,reduceCtorEq,Dy,hq,hm,l0,l1,l2,l3,l4,l5,lw,hd,zx,Nat.zero_add,e1,e2,List.length_map,e3,r1,BH]<;>exact hbr _
   · rw [hi] at hd
     rw [Yi]
     have hkt:kn=true:=by
      unfold FT.isDir at hi
      rw [hk] at hi
      cases kn
      · cases hi
      · rfl
     subst hkt
     have hnl:=ho.nlen
     simp only [DC,go_sem,AD,AA,AC,AB,KB_n,KB_x,Nat.reduceBEq,Nat.reduceAdd,Nat.reduceLT,Nat.reduceLeDiff,Nat.reduceEqDiff,reduceIte,Int.reduceEq,reduceCtorEq,Dy,hq,hm,l0,l1,l2,l3,l4,l5,lw,hd,zx,Nat.zero_add,e1,List.length_map,e3,BH]
     refine Br (fun x e q'=>∃ i:Nat,i+x=f.names.length∧q'=q∧ascN none (f.names.take i)=true∧e.get 1=.p m 0∧e.get 47=tx f.names∧e.get 48=.i .i64 (f.names.length:Nat)∧e.get 49=.i .i64 (i:Nat)) ?_ f.names.length _ _ ?_
     · rintro x e q' ⟨i,hix,rfl,hac,g1,g47,g48,g49⟩
       by_cases h:i < f.names.length
       · have h1:((i:Int) < (f.names.length:Int))=True:=eq_true (by omega)
         obtain ⟨y,hy⟩:∃ y,f.names[i]? = some y:=⟨_,List.getElem?_eq_getElem h⟩
         have hy2:(f.names.map AV.s)[i]? = some (.s y):=by rw [List.getElem?_map,hy]; rfl
         have hym:y∈f.names:=List.mem_of_getElem? hy
         have hnm:=XJ y (ho.names y hym).1 q' H1.wf
         have hw1:=Aj (show i+1 < 2^63 by omega)
         have htk:f.names.take (i+1)=f.names.take i++[y]:=by rw [List.take_add_one,hy]; rfl
         have hsn:=Qq none (f.names.take i) y
         rw [← htk,hac,Bool.true_and] at hsn
         have hno:ascN none (f.names.take (i+1))=false→ascN none f.names=false:=fun hf=>by
          rw [Bool.eq_false_iff]
          intro ht
          rw [Qr none f.names (i+1) ht] at hf
          cases hf
         cases hn1:Fh y with
         | false =>
           rw [hn1] at hnm hsn
           rw [hno hsn,Bool.false_and]
           simp only [go_sem,AD,AA,AC,AB,KB_n,KB_x,Nat.reduceBEq,Nat.reduceAdd,Nat.reduceLT,Nat.reduceLeDiff,Nat.reduceEqDiff,reduceIte,Int.reduceEq,reduceCtorEq,g1,g47,g48,g49,h1,AH,hy2,CN,Dm,hnm]
           exact hbr _
         | true =>
           rw [hn1] at hnm hsn
           cases i with
           | zero =>
             have h2:((0:Int) < ((0:Nat):Int))=False:=by simp
             have hsn:ascN none (f.names.take (0+1))=true:=by rw [hsn]; simp
             simp only [go_sem,AD,AA,AC,AB,KB_n,KB_x,Nat.reduceBEq,Nat.reduceAdd,Nat.reduceLT,Nat.reduceLeDiff,Nat.reduceEqDiff,reduceIte,Int.reduceEq,reduceCtorEq,g1,g47,g48,g49,h1,AH,hy2,CN,Dm,hnm,h2,hw1]
             exact ⟨x - 1,by omega,0+1,by omega,hsn,rfl⟩
           | succ i =>
             have h2:((0:Int) < ((i+1:Nat):Int))=True:=eq_true (by omega)
             obtain ⟨z,hz⟩:∃ z,f.names[i]? = some z:=⟨_,List.getElem?_eq_getElem (by omega)⟩
             have hz2:(f.names.map AV.s)[i]? = some (.s z):=by rw [List.getElem?_map,hz]; rfl
             have hsb:IntKind.i64.wrap (((i+1:Nat):Int) - 1)=(i:Int):=by
              rw [show ((i+1:Nat):Int) - 1=(i:Int) by omega]; exact FG (by omega)
             rw [PX hz] at hsn
             have hsn:ascN none (f.names.take (i+1+1))=ltN z y:=by rw [hsn]; simp
             have hle:(ltN y z||beqN y z)=!ltN z y:=KZ y z
             cases hzy:ltN z y with
             | false =>
               rw [hzy] at hle hsn
               rw [hno hsn,Bool.false_and]
               simp only [go_sem,AD,AA,AC,AB,KB_n,KB_x,Nat.reduceBEq,Nat.reduceAdd,Nat.reduceLT,Nat.reduceLeDiff,Nat.reduceEqDiff,reduceIte,Int.reduceEq,reduceCtorEq,g1,g47,g48,g49,h1,AH,hy2,CN,Dm,hnm,h2,l2,hsb,hz2,Ld,hle,Nat.zero_add]
               exact hbr _
             | true =>
               rw [hzy] at hle hsn
               simp only [go_sem,AD,AA,AC,AB,KB_n,KB_x,Nat.reduceBEq,Nat.reduceAdd,Nat.reduceLT,Nat.reduceLeDiff,Nat.reduceEqDiff,reduceIte,Int.reduceEq,reduceCtorEq,g1,g47,g48,g49,h1,AH,hy2,CN,Dm,hnm,h2,l2,hsb,hz2,Ld,hle,Nat.zero_add,hw1]
               exact ⟨x - 1,by omega,i+1+1,by omega,hsn,rfl⟩
       · have h1:((i:Int) < (f.names.length:Int))=False:=eq_false (by omega)
         rw [List.take_of_length_le (by omega)] at hac
         rw [hac,Bool.true_and]
         unfold FT.restB
         by_cases d1:f.rest=2
         · have r1:(f.rest=2)=True:=by simp [d1]
           rw [if_pos d1]
           by_cases d2:0≤f.beside
           · have r2:((0:Int)≤f.beside)=True:=by simp [d2]
             rw [decide_eq_true d2,Bool.true_and]
             simp only [go_sem,AD,AA,AC,AB,KB_n,KB_x,Nat.reduceBEq,Nat.reduceAdd,Nat.reduceLT,Nat.reduceLeDiff,Nat.reduceEqDiff,reduceIte,Int.reduceEq,reduceCtorEq,g1,g47,g48,g49,h1,l2,l4,l5,List.length_map,Nat.zero_add,r1,r2]
             exact hbr _
           · have r2:((0:Int)≤f.beside)=False:=by simp [d2]
             rw [decide_eq_false d2,Bool.false_and]
             simp only [go_sem,AD,AA,AC,AB,KB_n,KB_x,Nat.reduceBEq,Nat.reduceAdd,Nat.reduceLT,Nat.reduceLeDiff,Nat.reduceEqDiff,reduceIte,Int.reduceEq,reduceCtorEq,g1,g47,g48,g49,h1,l2,l4,l5,List.length_map,Nat.zero_add,r1,r2]
             exact hbr _
         · have r1:(f.rest=2)=False:=by simp [d1]
           rw [if_neg d1]
           by_cases d3:f.rest=0
           · have r3:(f.rest=0)=True:=by simp [d3]
             rw [decide_eq_true d3,Bool.true_or,Bool.true_and]
             simp only [go_sem,AD,AA,AC,AB,KB_n,KB_x,Nat.reduceBEq,Nat.reduceAdd,Nat.reduceLT,Nat.reduceLeDiff,Nat.reduceEqDiff,reduceIte,Int.reduceEq,reduceCtorEq,g1,g47,g48,g49,h1,l2,l4,l5,List.length_map,Nat.zero_add,r1,r3]
             exact hbr _
           · have r3:(f.rest=0)=False:=by simp [d3]
             rw [decide_eq_false d3,Bool.false_or]
             by_cases d4:f.rest=1
             · have r4:(f.rest=1)=True:=by simp [d4]
               rw [decide_eq_true d4,Bool.true_and]
               simp only [go_sem,AD,AA,AC,AB,KB_n,KB_x,Nat.reduceBEq,Nat.reduceAdd,Nat.reduceLT,Nat.reduceLeDiff,Nat.reduceEqDiff,reduceIte,Int.reduceEq,reduceCtorEq,g1,g47,g48,g49,h1,l2,l4,l5,List.length_map,Nat.zero_add,r1,r3,r4]
               exact hbr _
             · have r4:(f.rest=1)=False:=by simp [d4]
               rw [decide_eq_false d4,Bool.false_and]
               simp only [go_sem,AD,AA,AC,AB,KB_n,KB_x,Nat.reduceBEq,Nat.reduceAdd,Nat.reduceLT,Nat.reduceLeDiff,Nat.reduceEqDiff,reduceIte,Int.reduceEq,reduceCtorEq,g1,g47,g48,g49,h1,l2,l4,l5,List.length_map,Nat.zero_add,r1,r3,r4]
               exact hbr _
     · simp only [go_sem,AD,AA,AC,AB,KB_n,KB_x,Nat.reduceBEq,Nat.reduceAdd,Nat.reduceLT,Nat.reduceLeDiff,Nat.reduceEqDiff,reduceIte,Int.reduceEq,reduceCtorEq]
       exact ⟨0,by omega,by simp [ascN],rfl⟩
 · have hkn:f.names.length=(f.names.map AV.s).length:=by simp
   unfold FT.bad at hb
   by_cases a1:3 < f.kind
   · have e1:((3:Int) < (f.kind:Int))=True:=eq_true (by omega)
     simp only [DC,go_sem,AD,AA,AC,AB,KB_n,KB_x,Nat.reduceBEq,Nat.reduceAdd,Nat.reduceLT,Nat.reduceLeDiff,Nat.reduceEqDiff,reduceIte,Int.reduceEq,reduceCtorEq,Dy,hq,hm,l0,l1,l2,l3,l4,l5,Nat.zero_add,e1,Bool.not_true,Bool.false_and]
     exact hbr _
   · have e1:((3:Int) < (f.kind:Int))=False:=eq_false (by omega)
     rw [decide_eq_false a1,Bool.false_or] at hb
     cases hk:f.known
     · rw [hk] at l0 hb
       by_cases a2:f.kind=0
       · have e2:((f.kind:Int)≠0)=False:=by simp [a2]
         have hb:f.names.length≠f.kids.length:=by simpa [a2] using hb
         have e3:((f.names.length:Int)≠(f.kids.length:Int))=True:=by simp only [ne_eq,eq_iff_iff,iff_true]; omega
         simp only [DC,go_sem,AD,AA,AC,AB,KB_n,KB_x,Nat.reduceBEq,Nat.reduceAdd,Nat.reduceLT,Nat.reduceLeDiff,Nat.reduceEqDiff,reduceIte,Int.reduceEq,reduceCtorEq,Dy,hq,hm,l0,l1,l2,l3,l4,l5,zx,Nat.zero_add,e1,e2,List.length_map,e3,Bool.not_true,Bool.false_and]
         exact hbr _
       · have e2:((f.kind:Int)≠0)=True:=by simp [a2]
         simp only [DC,go_sem,AD,AA,AC,AB,KB_n,KB_x,Nat.reduceBEq,Nat.reduceAdd,Nat.reduceLT,Nat.reduceLeDiff,Nat.reduceEqDiff,reduceIte,Int.reduceEq,reduceCtorEq,Dy,hq,hm,l0,l1,l2,l3,l4,l5,Nat.zero_add,e1,e2,Bool.not_true,Bool.false_and]
         exact hbr _
     · rw [hk] at l0 hb
       have hb:f.names.length≠f.kids.length:=by simpa using hb
       have e3:((f.names.length:Int)≠(f.kids.length:Int))=True:=by simp only [ne_eq,eq_iff_iff,iff_true]; omega
       simp only [DC,go_sem,AD,AA,AC,AB,KB_n,KB_x,Nat.reduceBEq,Nat.reduceAdd,Nat.reduceLT,Nat.reduceLeDiff,Nat.reduceEqDiff,reduceIte,Int.reduceEq,reduceCtorEq,Dy,hq,hm,l0,l1,l2,l3,l4,l5,zx,Nat.zero_add,e1,List.length_map,e3,Bool.not_true,Bool.false_and]
       exact hbr _
end Go.Proofs.YtgloinighjdhlaaGreat

namespace Go.Proofs.YtgloinighjdhlaaGreat
open Go.Proofs.YtgloinighjdhlaaGreat.Am

attribute [local irreducible] W WO WE WQ WD Tr.get Tr.set
def PY (P:Int→Bool) (L:List Int):Int:=match L.findIdx? P with
 | some i=>(i:Int)
 | none => -1
theorem M6 (P:Int→Bool) (L:List Int):(0≤PY P L)=(L.any P=true):=by
 unfold PY
 cases h:L.findIdx? P with
 | none =>
   rw [List.findIdx?_eq_none_iff] at h
   simp only [eq_iff_iff,List.any_eq_true]
   constructor
   · intro hh; simp at hh
   · rintro ⟨x,hx,hp⟩; rw [h x hx] at hp; cases hp
 | some i =>
   rw [List.findIdx?_eq_some_iff_getElem] at h
   obtain ⟨h1,h2,_⟩:=h
   simp only [eq_iff_iff,List.any_eq_true]
   exact ⟨fun _=>⟨L[i],List.getElem_mem h1,h2⟩,fun _=>by omega⟩
theorem PZ {P:Int→Bool} {L:List Int} {i:Nat} {z:Int} (h:L[i]? = some z) (hz:P z=true) (hb:∀ j,j < i→∀ y,L[j]? = some y→P y=false):PY P L=(i:Int):=by
 have:L.findIdx? P=some i:=by
  rw [List.findIdx?_eq_some_iff_getElem]
  obtain ⟨h1,h2⟩:=List.getElem?_eq_some_iff.1 h
  refine ⟨h1,by rw [h2]; exact hz,fun j hj=>?_⟩
  rw [hb j hj L[j] (List.getElem?_eq_getElem (by omega))]
  simp
 unfold PY
 rw [this]
theorem Pa {P:Int→Bool} {L:List Int} (hb:∀ j,j < L.length→∀ y,L[j]? = some y→P y=false):PY P L = -1:=by
 have:L.findIdx? P=none:=by
  rw [List.findIdx?_eq_none_iff]
  intro x hx
  obtain ⟨j,hj,rfl⟩:=List.mem_iff_getElem.1 hx
  exact hb j hj _ (List.getElem?_eq_getElem hj)
 unfold PY
 rw [this]
theorem M7 {L:List Int} {i:Nat} {z:Int} (h:L[i]? = some z):(L.map iv)[i]? = some (.i .i64 z):=by
 rw [List.getElem?_map,h]; rfl
theorem Ee (z:Int):(AV.i .i64 z).cells=[.i .i64 z]:=rfl
theorem Pb {s q:St} (h:Over s q) {id:Nat} (hid:id < s.nb):q.box? id=s.box? id:=by
 have h1:=h.nb
 have e1:Nat.blt id q.nb=true:=by rw [Nat.blt_eq]; omega
 have e2:Nat.blt id s.nb=true:=by rw [Nat.blt_eq]; exact hid
 simp only [St.box?,e1,e2,cond_true,← h.boxes,List.getElem?_drop]
 congr 1
 omega
theorem Hs {s q:St} (h:Over s q) {id T off:Nat} {cs:List AV} {v:AV} (hid:id < s.nb) (hb:s.box? id=some (.cells T cs)) (hc:cs[off]? = some v):ldA q false 1 (.p id off)=some v :=
 D3 (by rw [Pb h hid]; exact hb) hc
theorem Qs (L:List Int) (hL:L.length < 2^62) (g:Nat) (caps:List AV) (P:Int→Bool) (s:St) (hw:Wf s) (hP:∀ z∈L,DZ (lim prog) (.fn g caps) [.i .i64 z] s.enter=some (.b (P z),s.enter)) :
    (lim prog).call CB [zx L,.fn g caps] s=some (.i .i64 (PY P L),s):=by
 refine fn_W EP rfl rfl ?_
 have hz0:wkZ Ab.cin [zx L,.fn g caps]=[zx L,.fn g caps]:=by simp [Ab,wkZ,wk,zx,Rl]
 rw [hz0]
 simp only [Ab,go_sem,AD,AA,AC,AB,KB_n,KB_x,Nat.reduceBEq,Nat.reduceAdd,Nat.reduceLT,Nat.reduceLeDiff,Nat.reduceEqDiff,reduceIte,Int.reduceEq,reduceCtorEq,zx,List.length_map]
 refine Br (fun x e q=>∃ i:Nat,i+x=L.length∧q=s.enter∧(∀ j,j < i→∀ y,L[j]? = some y→P y=false)∧e.get 0=zx L∧e.get 1=.fn g caps∧e.get 7=.i .i64 (L.length:Nat)∧e.get 8=.i .i64 (i:Nat)) ?_ L.length _ _ ?_
 · rintro x e q ⟨i,hi,rfl,hb,g0,g1,g7,g8⟩
   by_cases h:i < L.length
   · have h1:((i:Int) < (L.length:Int))=True:=eq_true (by omega)
     obtain ⟨z,hz⟩:∃ z,L[i]? = some z:=⟨_,List.getElem?_eq_getElem h⟩
     have hz2:=M7 hz
     have hc:=hP z (List.mem_of_getElem? hz)
     have hw1:=Aj (show i+1 < 2^63 by omega)
     cases hp:P z with
     | true =>
       rw [hp] at hc
       rw [PZ hz hp hb]
       simp only [go_sem,AD,AA,AC,AB,KB_n,KB_x,Nat.reduceBEq,Nat.reduceAdd,Nat.reduceLT,Nat.reduceLeDiff,Nat.reduceEqDiff,reduceIte,Int.reduceEq,reduceCtorEq,g0,g1,g7,g8,zx,h1,AH,hz2,Ee,Dm,hc]
       exact AP (Over.enter s) rfl rfl
     | false =>
       rw [hp] at hc
       simp only [go_sem,AD,AA,AC,AB,KB_n,KB_x,Nat.reduceBEq,Nat.reduceAdd,Nat.reduceLT,Nat.reduceLeDiff,Nat.reduceEqDiff,reduceIte,Int.reduceEq,reduceCtorEq,g0,g1,g7,g8,zx,h1,AH,hz2,Ee,Dm,hc,hw1]
       refine ⟨x - 1,by omega,i+1,by omega,fun j hj y hy=>?_,rfl⟩
       rcases Nat.lt_or_ge j i with hlt | hge
       · exact hb j hlt y hy
       · obtain rfl:j=i:=by omega
         rw [hz] at hy; cases hy; exact hp
   · have h1:((i:Int) < (L.length:Int))=False:=eq_false (by omega)
     rw [Pa fun j hj=>hb j (by omega)]
     simp only [go_sem,AD,AA,AC,AB,KB_n,KB_x,Nat.reduceBEq,Nat.reduceAdd,Nat.reduceLT,Nat.reduceLeDiff,Nat.reduceEqDiff,reduceIte,Int.reduceEq,reduceCtorEq,g0,g1,g7,g8,h1]
     exact AP (Over.enter s) rfl rfl
 · simp only [go_sem,AD,AA,AC,AB,KB_n,KB_x,Nat.reduceBEq,Nat.reduceAdd,Nat.reduceLT,Nat.reduceLeDiff,Nat.reduceEqDiff,reduceIte,Int.reduceEq,reduceCtorEq]
   exact ⟨0,by omega,fun j hj=>by omega,rfl,rfl⟩
theorem M8 (L:List Int) (hL:L.length < 2^62) (g:Nat) (caps:List AV) (P:Int→Bool) (s:St) (hw:Wf s) (hP:∀ z∈L,DZ (lim prog) (.fn g caps) [.i .i64 z] s.enter=some (.b (P z),s.enter)) :
    (lim prog).call BQ [zx L,.fn g caps] s=some (.b (L.any P),s):=by
 refine fn_W Dk rfl rfl ?_
 have hz0:wkZ AR.cin [zx L,.fn g caps]=[zx L,.fn g caps]:=by simp [AR,wkZ,wk,zx,Rl]
 have h1:=Qs L hL g caps P s.enter hw.enter hP
 rw [hz0]
 unfold zx at h1
 simp only [AR,go_sem,AD,AA,AC,AB,KB_n,KB_x,Nat.reduceBEq,Nat.reduceAdd,Nat.reduceLT,Nat.reduceLeDiff,Nat.reduceEqDiff,reduceIte,Int.reduceEq,reduceCtorEq,h1,zx,M6]
 exact AP (Over.enter s) rfl (by cases h:L.any P<;>rfl)
theorem Pc (L:List Int) (hL:L.length < 2^62) (g:Nat) (caps:List AV) (P:Int→Bool) (s:St) (hw:Wf s) {id off T:Nat} {p:Nat×Bool} {cs:List AV} (hid:id < s.nb) (hbx:s.box? id=some (.cells T cs)) (hcs:∀ i z,L[i]? = some z→cs[off+i]? = some (.i .i64 z)) (hP:∀ z∈L,DZ (lim prog) (.fn g caps) [.i .i64 z] s.enter=some (.b (P z),s.enter)) :
    (lim prog).call CB [AV.bl id 1 off L.length p,.fn g caps] s=some (.i .i64 (PY P L),s):=by
 refine fn_W EP rfl rfl ?_
 have hz0:wkZ Ab.cin [AV.bl id 1 off L.length p,.fn g caps]=[AV.bl id 1 off L.length p,.fn g caps]:=by simp [Ab,wkZ,wk]
 rw [hz0]
 simp only [Ab,go_sem,AD,AA,AC,AB,KB_n,KB_x,Nat.reduceBEq,Nat.reduceAdd,Nat.reduceLT,Nat.reduceLeDiff,Nat.reduceEqDiff,reduceIte,Int.reduceEq,reduceCtorEq]
 refine Br (fun x e q=>∃ i:Nat,i+x=L.length∧q=s.enter∧(∀ j,j < i→∀ y,L[j]? = some y→P y=false)∧e.get 0=AV.bl id 1 off L.length p∧e.get 1=.fn g caps∧e.get 7=.i .i64 (L.length:Nat)∧e.get 8=.i .i64 (i:Nat)) ?_ L.length _ _ ?_
 · rintro x e q ⟨i,hi,rfl,hb,g0,g1,g7,g8⟩
   by_cases h:i < L.length
   · have h1:((i:Int) < (L.length:Int))=True:=eq_true (by omega)
     obtain ⟨z,hz⟩:∃ z,L[i]? = some z:=⟨_,List.getElem?_eq_getElem h⟩
     have hz2:=Hs (Over.enter s) (off:=off+i) (v:=.i .i64 z) hid hbx (hcs i z hz)
     have hlt:(i < L.length)=True:=by simp [h]
     have hc:=hP z (List.mem_of_getElem? hz)
     have hw1:=Aj (show i+1 < 2^63 by omega)
     cases hp:P z with
     | true =>
       rw [hp] at hc
       rw [PZ hz hp hb]
       simp only [go_sem,AD,AA,AC,AB,KB_n,KB_x,Nat.reduceBEq,Nat.reduceAdd,Nat.reduceLT,Nat.reduceLeDiff,Nat.reduceEqDiff,reduceIte,Int.reduceEq,reduceCtorEq,g0,g1,g7,g8,h1,AH,hlt,Nat.mul_one,hz2,hc]
       exact AP (Over.enter s) rfl rfl
     | false =>
       rw [hp] at hc
       simp only [go_sem,AD,AA,AC,AB,KB_n,KB_x,Nat.reduceBEq,Nat.reduceAdd,Nat.reduceLT,Nat.reduceLeDiff,Nat.reduceEqDiff,reduceIte,Int.reduceEq,reduceCtorEq,g0,g1,g7,g8,h1,AH,hlt,Nat.mul_one,hz2,hc,hw1]
       refine ⟨x - 1,by omega,i+1,by omega,fun j hj y hy=>?_,rfl⟩
       rcases Nat.lt_or_ge j i with hlt | hge
       · exact hb j hlt y hy
       · obtain rfl:j=i:=by omega
         rw [hz] at hy; cases hy; exact hp
   · have h1:((i:Int) < (L.length:Int))=False:=eq_false (by omega)
     rw [Pa fun j hj=>hb j (by omega)]
     simp only [go_sem,AD,AA,AC,AB,KB_n,KB_x,Nat.reduceBEq,Nat.reduceAdd,Nat.reduceLT,Nat.reduceLeDiff,Nat.reduceEqDiff,reduceIte,Int.reduceEq,reduceCtorEq,g0,g1,g7,g8,h1]
     exact AP (Over.enter s) rfl rfl
 · simp only [go_sem,AD,AA,AC,AB,KB_n,KB_x,Nat.reduceBEq,Nat.reduceAdd,Nat.reduceLT,Nat.reduceLeDiff,Nat.reduceEqDiff,reduceIte,Int.reduceEq,reduceCtorEq]
   exact ⟨0,by omega,fun j hj=>by omega,rfl⟩
theorem Lq (L:List Int) (hL:L.length < 2^62) (g:Nat) (caps:List AV) (P:Int→Bool) (s:St) (hw:Wf s) {id off T:Nat} {p:Nat×Bool} {cs:List AV} (hid:id < s.nb) (hbx:s.box? id=some (.cells T cs)) (hcs:∀ i z,L[i]? = some z→cs[off+i]? = some (.i .i64 z)) (hP:∀ z∈L,DZ (lim prog) (.fn g caps) [.i .i64 z] s.enter=some (.b (P z),s.enter)) :
    (lim prog).call BQ [AV.bl id 1 off L.length p,.fn g caps] s=some (.b (L.any P),s):=by
 refine fn_W Dk rfl rfl ?_
 have hz0:wkZ AR.cin [AV.bl id 1 off L.length p,.fn g caps]=[AV.bl id 1 off L.length p,.fn g caps]:=by simp [AR,wkZ,wk]
 have h1:=Pc L hL g caps P s.enter hw.enter (p:=p) hid hbx hcs hP
 rw [hz0]
 simp only [AR,go_sem,AD,AA,AC,AB,KB_n,KB_x,Nat.reduceBEq,Nat.reduceAdd,Nat.reduceLT,Nat.reduceLeDiff,Nat.reduceEqDiff,reduceIte,Int.reduceEq,reduceCtorEq,h1,M6]
 exact AP (Over.enter s) rfl (by cases h:L.any P<;>rfl)

def cnts (n:Nat) (P:List Int):List AV:=(List.range n).map fun j=>.i .i64 ((P.count ((j:Nat):Int):Nat):Int)
theorem TR:∀ n,repL n [.i .i64 0]=cnts n []
 | 0=>rfl
 | n+1=>by
   have h1:∀ m,cnts m []=List.replicate m (.i .i64 0):=fun m=>by
    unfold cnts
    apply List.ext_getElem?
    intro j
    rw [List.getElem?_map,List.getElem?_replicate]
    by_cases hj:j < m
    · rw [List.getElem?_range hj,if_pos hj]; rfl
    · rw [List.getElem?_eq_none (by simpa using hj),if_neg hj]; rfl
   rw [repL,TR n,h1,h1]; rfl
theorem ME (n:Nat) (P:List Int):(cnts n P).length=n:=by simp [cnts]
theorem KT {n j:Nat} {P:List Int} (h:j < n):(cnts n P)[j]? = some (.i .i64 ((P.count (j:Int):Nat):Int)):=by
 unfold cnts
 rw [List.getElem?_map,List.getElem?_range h]; rfl
theorem Yj {n k:Nat} {P:List Int} (h:k < n):(cnts n P).set k (.i .i64 ((P.count (k:Int)+1:Nat):Int))=cnts n (P++[(k:Int)]):=by
 apply List.ext_getElem?
 intro j
 rw [List.getElem?_set]
 by_cases hj:k=j
 · subst hj
   rw [if_pos rfl,if_pos (by rw [ME]; exact h),KT h]
   simp [List.count_append]
 · rw [if_neg hj]
   by_cases hjn:j < n
   · rw [KT hjn,KT hjn,List.count_append]
     have:List.count (j:Int) [(k:Int)]=0:=by
      rw [List.count_eq_zero]
      simp only [List.mem_singleton]
      omega
     rw [this]; rfl
   · rw [List.getElem?_eq_none (by rw [ME]; omega),List.getElem?_eq_none (by rw [ME]; omega)]
def mayP (l:List FT):Bool:=match l with
 | []=>false
 | f::t=>f.isDir&&((f::t).all FT.one&&(Hz (f::t).length 0 (f::t)&&M5 (f::t)))
def fine (n i:Nat) (f:FT):Prop:=f.one=true∧∀ k∈f.kids,(i:Int) < k∧k < (n:Int)
theorem Yk {f:FT} {t:List FT} {i:Nat} {x:FT} (h:(f::t)[i]? = some x) (hf:¬ fine (f::t).length i x):mayP (f::t)=false:=by
 rw [Bool.eq_false_iff]
 intro hm
 simp only [mayP,Bool.and_eq_true,List.all_eq_true,Eu] at hm
 exact hf ⟨hm.2.1 x (List.mem_of_getElem? h),fun k hk=>by have:=hm.2.2.1 i x h k hk; simpa using this⟩
theorem Yl {f:FT} {t:List FT} (hd:f.isDir=true) (h:∀ i x,(f::t)[i]? = some x→fine (f::t).length i x):mayP (f::t)=M5 (f::t):=by
 have h1:(f::t).all FT.one=true:=by
  rw [List.all_eq_true]
  intro x hx
  obtain ⟨i,hi,rfl⟩:=List.mem_iff_getElem.1 hx
  exact (h i _ (List.getElem?_eq_getElem hi)).1
 have h2:Hz (f::t).length 0 (f::t)=true:=Eu.2 fun a g hg k hk=>by
  have:=(h a g hg).2 k hk
  simpa using this
 simp only [mayP,hd,h1,h2,Bool.true_and]
theorem Ym (l:List FT) (hl:0 < l.length):M5 l=!((List.range (l.length - 1)).map fun j:Nat=>((cntK l ((j:Int)+1):Nat):Int)).any fun z=>decide (z≠1):=by
 unfold M5
 rw [List.any_map,List.not_any_eq_all_not]
 congr 1
 funext j
 simp only [Function.comp]
 rw [Bool.eq_iff_iff]
 simp
 omega
theorem bn (z:Int) (s:St):(lim prog).call Hm [.i .i64 z] s=some (.b (decide (z≠1)),s):=by
 refine fn_W R4 rfl rfl ?_
 simp only [GU,go_sem,AD,AA,AC,AB,KB_n,KB_x,Nat.reduceBEq,Nat.reduceAdd,Nat.reduceLT,Nat.reduceLeDiff,Nat.reduceEqDiff,reduceIte,Int.reduceEq,reduceCtorEq]
 exact AP (Over.enter s) rfl rfl
theorem I6 {l:List FT} {i:Nat} {f:FT} (h:l[i]? = some f):flatK (l.take (i+1))=flatK (l.take i)++f.kids:=by
 unfold flatK
 rw [List.take_add_one,h]
 simp

theorem Yn (l:List FT) (i:Nat):(flatK (l.take i)).length≤(flatK l).length:=by
 have:flatK l=flatK (l.take i)++flatK (l.drop i):=by
  unfold flatK
  rw [← List.flatten_append,← List.map_append,List.take_append_drop]
 rw [this,List.length_append]
 omega
theorem WT (l : List FT) (ho:∀ f∈l,f.Ok) (hl:l.length < 2^34) (hB:(flatK l).length < 2^62) (s:St) (hw:Wf s):(lim prog).call DQ [fx l] s=some (.b (mayP l),s):=by
 refine fn_W Qk rfl rfl ?_
 have hz0:wkZ E7.cin [fx l]=[fx l]:=by
  simp only [E7,wkZ,fx,wk]
 rw [hz0]
 cases hl0:l with
 | nil =>
   have r1:(((List.map FT.av []).length:Int)=0)=True:=by simp
   simp only [E7,go_sem,AD,AA,AC,AB,KB_n,KB_x,Nat.reduceBEq,Nat.reduceAdd,Nat.reduceLT,Nat.reduceLeDiff,Nat.reduceEqDiff,reduceIte,Int.reduceEq,reduceCtorEq,fx,r1]
   exact AP (Over.enter s) rfl rfl
 | cons f t =>
   have hmay:mayP (f::t)=mayP l:=by rw [hl0]
   have hdef:f.isDir=false→mayP l=false:=fun h=>by rw [hl0,mayP,h]; rfl
   have hf0:l[0]? = some f:=by rw [hl0]; rfl
   have hpos:0 < l.length:=by rw [hl0]; simp
   rw [hmay,← hl0]
   clear hmay
   have r1:((l.length:Int)=0)=False:=eq_false (by omega)
   have hget:=JH hf0
   have hd:=Zj f s.enter hw.enter
   cases hi:f.isDir
   · rw [hi] at hd
     rw [hdef hi]
     simp only [E7,go_sem,AD,AA,AC,AB,KB_n,KB_x,Nat.reduceBEq,Nat.reduceAdd,Nat.reduceLT,Nat.reduceLeDiff,Nat.reduceEqDiff,reduceIte,Int.reduceEq,reduceCtorEq,fx,List.length_map,r1,XB,hget,Cd,E9,BH,hd]
     exact AP (Over.enter s) rfl rfl
   · rw [hi] at hd
     have hmk:(0≤(l.length:Int)∧(l.length:Int)≤(l.length:Int)∧(l.length:Int)*(1:Nat) < 2^38∧(l.length:Int) < 2^38)=True:=by
      simp only [eq_iff_iff,iff_true]; omega
     simp only [E7,go_sem,AD,AA,AC,AB,KB_n,KB_x,Nat.reduceBEq,Nat.reduceAdd,Nat.reduceLT,Nat.reduceLeDiff,Nat.reduceEqDiff,reduceIte,Int.reduceEq,reduceCtorEq,fx,List.length_map,r1,XB,hget,Cd,E9,BH,hd,hmk,Int.toNat_natCast,TR,Nat.mul_one]
     have H0:=(Hp.begin hw).new (.cells 3 (cnts l.length []))
     generalize hq0:s.enter.new (.cells 3 (cnts l.length []))=q0 at H0
     generalize hm:s.enter.nb=m at H0
     refine Br (fun x e q=>∃ i:Nat,i+x=l.length∧Hp s q s.en [] [(m,.cells 3 (cnts l.length (flatK (l.take i))))]∧(∀ a g,a < i→l[a]? = some g→fine l.length a g)∧e.get 0=fx l∧e.get 3=.bl m 1 0 l.length (l.length,true)∧e.get 21=fx l∧e.get 22=.i .i64 (l.length:Nat)∧e.get 23=.i .i64 (i:Nat)) ?_ l.length _ _ ?_
     · rintro x e q ⟨i,hix,H,hfi,g0,g3,g21,g22,g23⟩
       by_cases h:i < l.length
       · have h1 : ((i:Int) < (l.length:Int))=True:=eq_true (by omega)
         obtain ⟨g,hg⟩:∃ g,l[i]? = some g:=⟨_,List.getElem?_eq_getElem h⟩
         have hg2:=JH hg
         have hgo:=ho g (List.mem_of_getElem? hg)
         have hw1:=Aj (show i+1 < 2^63 by omega)
         obtain ⟨q1,d1,H1,n1⟩:=H.adp (T:=48) (m:=6) (z:=[.b false,.i .u8 0,.nsl,.nsl,.i .i64 0,.i .i64 0]) (v:=.agg g.cells) rfl ⟨rfl,rfl⟩
         generalize hb:q.nb=b at d1 H1
         have hone:=one_ok g hgo q1 H1.wf
         have lw:=H1.ldw (m:=6) 0 rfl rfl
         have l3:=H1.ld 0 (off:=3) (v:=zx g.kids) rfl rfl
         have hno:¬ fine l.length i g→mayP l=false:=fun hn=>by rw [hl0] at hg hn ⊢; exact Yk hg hn
         cases ho1:g.one
         · rw [ho1] at hone
           rw [hno fun hh=>by rw [hh.1] at ho1; cases ho1]
           simp only [go_sem,AD,AA,AC,AB,KB_n,KB_x,Nat.reduceBEq,Nat.reduceAdd,Nat.reduceLT,Nat.reduceLeDiff,Nat.reduceEqDiff,reduceIte,Int.reduceEq,reduceCtorEq,g0,g3,g21,g22,g23,fx,h1,AH,hg2,Cd,E9,BH,d1,hb,lw,hone]
           exact AP H1.over rfl rfl
         · rw [ho1] at hone
           simp only [go_sem,AD,AA,AC,AB,KB_n,KB_x,Nat.reduceBEq,Nat.reduceAdd,Nat.reduceLT,Nat.reduceLeDiff,Nat.reduceEqDiff,reduceIte,Int.reduceEq,reduceCtorEq,g0,g3,g21,g22,g23,fx,h1,AH,hg2,Cd,E9,BH,d1,hb,lw,hone,l3,Nat.zero_add,zx,List.length_map]
           refine Br (fun y e q'=>∃ c:Nat,c+y=g.kids.length∧Hp s q' s.en [] [(b,.cells 48 g.cells),(m,.cells 3 (cnts l.length (flatK (l.take i)++g.kids.take c)))]∧(∀ k∈g.kids.take c,(i:Int) < k∧k < (l.length:Int))∧e.get 0=fx l∧e.get 3=.bl m 1 0 l.length (l.length,true)∧e.get 21=fx l∧e.get 22=.i .i64 (l.length:Nat)∧e.get 23=.i .i64 (i:Nat)∧e.get 4=.i .i64 (i:Nat)∧e.get 32=zx g.kids∧e.get 33=.i .i64 (g.kids.length:Nat)∧e.get 34=.i .i64 (c:Nat)) ?_ g.kids.length _ _ ?_
           · clear g0 g3 g21 g22 g23
             rintro y e q' ⟨c,hcy,H,hfk,g0,g3,g21,g22,g23,g4,g32,g33,g34⟩
             by_cases hc:c < g.kids.length
             · have c1:((c:Int) < (g.kids.length:Int))=True:=eq_true (by omega)
               obtain ⟨k,hk⟩:∃ k,g.kids[c]? = some k:=⟨_,List.getElem?_eq_getElem hc⟩
               have hk2:=M7 hk
               have hkm:=List.mem_of_getElem? hk
               have hw2:=Aj (show c+1 < 2^63 by have:=hgo.klen; omega)
               by_cases k1:k≤(i:Int)
               · have e1:(k≤(i:Int))=True:=by simp [k1]
                 rw [hno fun hh=>by have:=(hh.2 k hkm).1; omega]
                 simp only [go_sem,AD,AA,AC,AB,KB_n,KB_x,Nat.reduceBEq,Nat.reduceAdd,Nat.reduceLT,Nat.reduceLeDiff,Nat.reduceEqDiff,reduceIte,Int.reduceEq,reduceCtorEq,g0,g3,g21,g22,g23,g4,g32,g33,g34,zx,c1,AH,hk2,Ee,Dm,e1]
                 exact AP H.over rfl rfl
               · have e1:(k≤(i:Int))=False:=by simp [k1]
                 by_cases k2:(l.length:Int)≤k
                 · have e2:((l.length:Int)≤k)=True:=by simp [k2]
                   rw [hno fun hh=>by have:=(hh.2 k hkm).2; omega]
                   simp only [go_sem,AD,AA,AC,AB,KB_n,KB_x,Nat.reduceBEq,Nat.reduceAdd,Nat.reduceLT,Nat.reduceLeDiff,Nat.reduceEqDiff,reduceIte,Int.reduceEq,reduceCtorEq,g0,g3,g21,g22,g23,g4,g32,g33,g34,fx,zx,List.length_map,c1,AH,hk2,Ee,Dm,e1,e2]
                   exact AP H.over rfl rfl
                 · have e2:((l.length:Int)≤k)=False:=by simp [k2]
                   obtain ⟨j,rfl⟩:∃ j:Nat,k=(j:Int):=⟨k.toNat,by omega⟩
                   have hj:j < l.length:=by omega
                   have hlt:(j < l.length)=True:=by simp [hj]
                   have lj:=H.ld 1 (off:=j) (v:=_) rfl (KT hj)
                   obtain ⟨q2,d2,H2,n2,_⟩:=H.st 1 (off:=j) (v:=.i .i64 (((flatK (l.take i)++g.kids.take c).count (j:Int)+1:Nat):Int)) rfl (by rw [ME]; exact hj) ⟨rfl,rfl⟩
                   have hth:∀ u:St,G1 u (.bl m 1 0 l.length (l.length,true))=some (.bl m 1 0 l.length (l.length,true),u):=fun _=>rfl
                   have hcnt:(flatK (l.take i)++g.kids.take c).count (j:Int) < 2^62:=by
                    have a1:=List.count_le_length (a:=(j:Int)) (l:=flatK (l.take i)++g.kids.take c)
                    have a2:=Yn l (i+1)
                    rw [I6 hg] at a2
                    simp only [List.length_append,List.length_take] at a1 a2
                    omega
                   have hw3:=Aj (show (flatK (l.take i)++g.kids.take c).count (j:Int)+1 < 2^63 by omega)
                   simp only [go_sem,AD,AA,AC,AB,KB_n,KB_x,Nat.reduceBEq,Nat.reduceAdd,Nat.reduceLT,Nat.reduceLeDiff,Nat.reduceEqDiff,reduceIte,Int.reduceEq,reduceCtorEq,g0,g3,g21,g22,g23,g4,g32,g33,g34,fx,zx,List.length_map,c1,AH,hk2,Ee,Dm,e1,e2,hlt,Nat.zero_add,Nat.mul_one,lj,hth,hw3,d2,hw2]
                   rw [Yj hj] at H2
                   have htk:g.kids.take (c+1)=g.kids.take c++[(j:Int)]:=by rw [List.take_add_one,hk]; rfl
                   refine ⟨y - 1,by omega,c+1,by omega,?_,?_,?_⟩
                   · rw [htk,← List.append_assoc]; exact H2
                   · intro k' hk'
                     rw [htk] at hk'
                     rcases List.mem_append.1 hk' with h' | h'
                     · exact hfk k' h'
                     · rw [List.mem_singleton] at h'; subst h'; omega
                   rfl
             · have c1:((c:Int) < (g.kids.length:Int))=False:=eq_false (by omega)
               have htc:g.kids.take c=g.kids:=List.take_of_length_le (by omega)
               rw [htc] at H hfk
               rw [← I6 hg] at H
               simp only [go_sem,AD,AA,AC,AB,KB_n,KB_x,Nat.reduceBEq,Nat.reduceAdd,Nat.reduceLT,Nat.reduceLeDiff,Nat.reduceEqDiff,reduceIte,Int.reduceEq,reduceCtorEq,g0,g3,g21,g22,g23,g4,g32,g33,g34,c1,hw1]
               refine ⟨x - 1,by omega,i+1,by omega,H.dropB,fun a g' ha hg'=>?_,rfl,rfl,rfl⟩
               rcases Nat.lt_or_ge a i with hlt | hge
               · exact hfi a g' hlt hg'
               · obtain rfl:a=i:=by omega
                 rw [hg] at hg'; cases hg'
                 exact ⟨ho1,hfk⟩
           · simp only [go_sem,AD,AA,AC,AB,KB_n,KB_x,Nat.reduceBEq,Nat.reduceAdd,Nat.reduceLT,Nat.reduceLeDiff,Nat.reduceEqDiff,reduceIte,Int.reduceEq,reduceCtorEq]
             refine ⟨0,by omega,?_,fun k hk=>by simp at hk,?_⟩
             · rw [List.take_zero,List.append_nil]; exact H1
             exact ⟨g0,g3,g21,g22,g23,rfl,rfl⟩
       · have h1:((i:Int) < (l.length:Int))=False:=eq_false (by omega)
         rw [List.take_of_length_le (by omega)] at H
         have hs:Bk q false 1 (.bl m 1 0 l.length (l.length,true)) (some (.i .i64 1)) none none=some (.bl m 1 1 (l.length - 1) (l.length,true),q):=by
          have hbd:Cb l.length (some (.i .i64 1)) none=some (1,l.length):=by
           show (if 1≤l.length∧l.length≤l.length then some (1,l.length) else none)=_
           rw [if_pos ⟨by omega,by omega⟩]
          simp only [Bk,Option.isSome_none,if_true,Bool.false_eq_true,if_false,hbd]
         have hbx:=H.box (i:=0) rfl
         have hc:=Lq ((List.range (l.length - 1)).map fun j:Nat=>((cntK l ((j:Int)+1):Nat):Int)) (by simp; omega) Hm [] (fun z=>decide (z≠1)) q H.wf (id:=m) (off:=1) (p:=(l.length,true)) hbx.2.2 hbx.1 (fun j z hz=>by
          rw [List.getElem?_map] at hz
          have hj:j < l.length - 1:=by
           by_cases hj:j < l.length - 1
           · exact hj
           · rw [List.getElem?_eq_none (by simpa using hj)] at hz; cases hz
          rw [List.getElem?_range hj] at hz
          cases hz
          rw [KT (show 1+j < l.length by omega),show (((1+j:Nat):Int))=(j:Int)+1 by omega]
          rfl) (fun z _=>bn z q.enter)
         rw [List.length_map,List.length_range] at hc
         simp only [go_sem,AD,AA,AC,AB,KB_n,KB_x,Nat.reduceBEq,Nat.reduceAdd,Nat.reduceLT,Nat.reduceLeDiff,Nat.reduceEqDiff,reduceIte,Int.reduceEq,reduceCtorEq,g0,g3,g21,g22,g23,h1,hs,hc]
         refine AP H.over rfl ?_
         have hfin:mayP l=M5 l:=by
          rw [hl0]
          exact Yl hi fun a g hg=>by rw [← hl0] at hg ⊢; exact hfi a g (by have:=(List.getElem?_eq_some_iff.1 hg).1; omega) hg
         rw [hfin,Ym l hpos]
         rfl
     · simp only [go_sem,AD,AA,AC,AB,KB_n,KB_x,Nat.reduceBEq,Nat.reduceAdd,Nat.reduceLT,Nat.reduceLeDiff,Nat.reduceEqDiff,reduceIte,Int.reduceEq,reduceCtorEq]
       exact ⟨0,by omega,H0,fun a g ha=>by omega,rfl,rfl,rfl⟩
end Go.Proofs.YtgloinighjdhlaaGreat

namespace Go.Proofs.YtgloinighjdhlaaGreat
open Go.Proofs.YtgloinighjdhlaaGreat.Am
theorem Yo (f:FT) (t:List FT):mayP (f::t)=(f.isDir&&((f::t).all FT.one&&(decide ((flatK (f::t)).length=(f::t).length - 1)&&upB (f::t)))):=by
 rw [mayP,WR (f::t) (by simp)]

theorem Qt:∀ G:List (List AV),Cc (G.map AV.agg)=G.flatten
 | []=>rfl
 | c::G=>by
   simp only [List.map_cons,Cc,Qt G,List.flatten_cons]
   rfl
def Cf (l:List FT) (n:Int):Int:=if mayP l then (if 0≤n∧n < (l.length:Int) then 0 else 1) else 4
def dirE (l:List FT) (n:Int):Int:=if Cf l n=0 then (match l[n.toNat]? with | some f=>if f.isDir then 0 else 1 | none=>0) else Cf l n
theorem HJ {l:List FT} {n:Int} (h:Cf l n=0):mayP l=true∧∃ (i:Nat) (f:FT),n=(i:Int)∧l[i]? = some f:=by
 unfold Cf at h
 split at h
 · split at h
   · rename_i h1 h2
     exact ⟨h1,n.toNat,l[n.toNat]'(by omega),by omega,List.getElem?_eq_getElem (by omega)⟩
   · cases h
 · cases h

section
variable {s0 s:St} {n:En} {R:List RA} {B:List (Nat×Box)}
end
theorem SC (f:FT):wkZ [CT.id,.id,(.sl 1 .id),(.sl 1 .id),.id,.id] f.cells=f.cells:=by
 simp only [FT.cells,wkZ,wk,zx,tx]
theorem bo (l:List FT):(l.map FT.cells).map AV.agg=l.map FT.av:=by
 rw [List.map_map]; rfl
end Go.Proofs.YtgloinighjdhlaaGreat

namespace Go.Proofs.YtgloinighjdhlaaGreat
open Go.Proofs.YtgloinighjdhlaaGreat.Am
section
variable {s0 s:St} {n:En} {R:List RA} {B:List (Nat×Box)}
theorem _root_.Go.Proofs.YtgloinighjdhlaaGreat.Am.Hp.slc (H:Hp s0 s n R B) (i:Nat) {es T:Nat} {a:AV} {xs:List AV} {fr:Bool} (h:R[i]? = some ⟨es,T,a,xs,fr⟩) {lo hi:Option AV} {p q:Nat} (hb:Cb xs.length lo hi=some (p,q)) :
    ∃ a' s',Bk s false es a lo hi none=some (a',s')∧elems s' es a'=some ((xs.drop p).take (q - p))∧(Ca es a' ((xs.drop p).take (q - p))∨(a'=a∧(xs.drop p).take (q - p)=xs))∧(∃ fr',Hp s0 s' n (R.set i ⟨es,T,a,xs,fr'⟩) B)∧s'.nb=s.nb:=by
 have hself:R.set i ⟨es,T,a,xs,fr⟩=R:=by
  apply List.ext_getElem?
  intro j
  rw [List.getElem?_set]
  by_cases hj:i=j
  · subst hj
    rw [if_pos rfl,if_pos (List.getElem?_eq_some_iff.1 h).1,h]
  · rw [if_neg hj]
 have hH:∃ fr',Hp s0 s n (R.set i ⟨es,T,a,xs,fr'⟩) B:=⟨fr,by rw [hself]; exact H⟩
 have hbl:∀ {p q:Nat},Cb 0 lo hi=some (p,q)→p=0∧q=0:=by
  intro p q hh
  unfold Cb at hh
  simp only at hh
  split at hh
  · split at hh
    · rename_i hq
      cases hh
      omega
    · cases hh
  · cases hh
 rcases H.rows h with (⟨h1,h2⟩ | ⟨h1,h2⟩ | h1 | h1) | ⟨k,v,t,ha,k1,k2,k3,k4,k5,k6,k7⟩
 · simp only at h1 h2; subst h1; subst h2
   rw [List.length_nil] at hb
   obtain ⟨rfl,rfl⟩:=hbl hb
   exact ⟨.nsl,s,by simp only [Bk,hb],rfl,.inl (.inl ⟨rfl,rfl⟩),hH,rfl⟩
 · simp only at h1 h2; subst h1; subst h2
   rw [List.length_nil] at hb
   obtain ⟨rfl,rfl⟩:=hbl hb
   exact ⟨.wz,s,by simp only [Bk,hb],rfl,.inl (.inr (.inl ⟨rfl,rfl⟩)),hH,rfl⟩
 · simp only at h1; subst h1
   by_cases hw:p=0∧q=xs.length
   · have hys:(xs.drop p).take (q - p)=xs:=by rw [hw.1,hw.2]; simp
     refine ⟨.sl es xs .full,s,?_,?_,.inr ⟨rfl,hys⟩,hH,rfl⟩
     · simp only [Bk,if_true,hb]
       rw [if_pos hw]
     · rw [hys]; simp [elems,St.ok]
   · by_cases hq:q=xs.length
     · refine ⟨.sl es ((xs.drop p).take (q - p)) .full,s,?_,by simp [elems,St.ok],.inl (.inr (.inr (.inl rfl))),hH,rfl⟩
       simp only [Bk,if_true,hb]
       rw [if_neg hw,if_pos hq]
     · refine ⟨.sl es ((xs.drop p).take (q - p)) .shut,s,?_,by simp [elems,St.ok],.inl (.inr (.inr (.inr (.inl rfl)))),hH,rfl⟩
       simp only [Bk,if_true,hb]
       rw [if_neg hw,if_neg hq]
 · simp only at h1; subst h1
   by_cases hw:p=0∧q=xs.length
   · have hys:(xs.drop p).take (q - p)=xs:=by rw [hw.1,hw.2]; simp
     refine ⟨.ws true es xs,s,?_,?_,.inr ⟨rfl,hys⟩,hH,rfl⟩
     · simp only [Bk,if_true,hb]
       rw [if_pos hw]
     · rw [hys]; simp [elems]
   · refine ⟨.ws false es ((xs.drop p).take (q - p)),s,?_,by simp [elems],.inl (.inr (.inr (.inr (.inr (.inr rfl))))),hH,rfl⟩
     simp only [Bk,if_true,hb]
     rw [if_neg hw]
 · simp only at ha k5 k6 k7
   subst ha
   by_cases hw:p=0∧q=xs.length
   · have hys:(xs.drop p).take (q - p)=xs:=by rw [hw.1,hw.2]; simp
     refine ⟨.sl es xs (.tok k v),s,?_,?_,.inr ⟨rfl,hys⟩,hH,rfl⟩
     · simp only [Bk,if_true,hb]
       rw [if_pos hw]
     · rw [hys]; simp [elems,St.ok,k3,k4]
   · refine ⟨.sl es ((xs.drop p).take (q - p)) .shut,s.setTok k { t with pub:=max t.pub xs.length },?_,by simp [elems,St.ok],.inl (.inr (.inr (.inr (.inl rfl)))),⟨false,?_⟩,rfl⟩
     · simp only [Bk,if_true,hb,k3,k4,Bool.false_and,Bool.false_eq_true,if_false]
       rw [if_neg hw]
     · exact H.setTok h rfl k3 xs { t with pub:=max t.pub xs.length } v false k4 k5 rfl (fun hh=>by cases hh)
end
end Go.Proofs.YtgloinighjdhlaaGreat

namespace Go.Proofs.YtgloinighjdhlaaGreat
open Go.Proofs.YtgloinighjdhlaaGreat.Am
def besP (f:FT):List Int:=(Ds f.kids).drop f.beside.toNat

def D0 (l:List FT) (n:Int) (kind:Nat):List FT×Int :=
 if Cf l n=0 then (match l[n.toNat]? with
  | none=>([],0)
  | some f=>if f.known then ([],6) else if 3 < kind then ([],1) else (l.set n.toNat ⟨true,kind,[],[],0,0⟩,0)) else ([],Cf l n)
def FA (l:List FT) (n:Int):List FT×Int :=
 if dirE l n=0 then (match l[n.toNat]? with
  | none=>([],0)
  | some f=>if f.rest=1 then ([],6) else (l.set n.toNat { f with rest:=2,beside:=(f.names.length:Int) },0)) else ([],dirE l n)
def HL (l:List FT) (f:FT):Bool:=(besP f).any fun k=>match l[k.toNat]? with
 | some g=>g.known&&decide (g.kind≠0)
 | none=>false
def DV (l:List FT) (n:Int):List FT×Int :=
 if dirE l n=0 then (match l[n.toNat]? with
  | none=>([],0)
  | some f=>if f.rest=1 then ([],6) else if f.rest=2∧HL l f=false then ([],67) else (l.set n.toNat { f with rest:=1,beside:=0 },0)) else ([],dirE l n)
theorem Pd {l:List FT} (h:mayP l=true) {f:FT} (hf:f∈l):f.one=true:=by
 cases l with
 | nil=>cases hf
 | cons g t =>
   simp only [mayP,Bool.and_eq_true,List.all_eq_true] at h
   exact h.2.1 f hf

theorem Yp {f:FT} (h:f.one=true) (hd:f.isDir=true) (hr:f.rest=2):0≤f.beside∧f.beside≤(f.kids.length:Int):=by
 unfold FT.one at h
 rw [hd] at h
 simp only [if_true,Bool.and_eq_true,Bool.not_eq_true'] at h
 obtain ⟨h1,h2,h3⟩:=h
 unfold FT.restB at h3
 rw [if_pos hr] at h3
 simp only [Bool.and_eq_true,decide_eq_true_eq] at h3
 unfold FT.bad at h1
 simp only [Bool.or_eq_false_iff,decide_eq_false_iff_not,Decidable.not_not] at h1
 have:=h1.2.2
 omega
theorem bq {f:FT} {k:Int} (h:k∈besP f):k∈f.kids:=by
 unfold besP at h
 have h1:=List.mem_of_mem_drop h
 exact (List.mergeSort_perm f.kids _).mem_iff.1 h1
theorem br {l:List FT} (h:mayP l=true) {i:Nat} {f:FT} (hf:l[i]? = some f) {k:Int} (hk:k∈f.kids):∃ (j:Nat) (g:FT),k=(j:Int)∧l[j]? = some g:=by
 cases l with
 | nil=>simp at hf
 | cons g t =>
   simp only [mayP,Bool.and_eq_true,Eu] at h
   have:=h.2.2.1 i f hf k hk
   exact ⟨k.toNat,(g::t)[k.toNat]'(by omega),by omega,List.getElem?_eq_getElem (by omega)⟩
def Jd (l:List FT) (k:Int):Bool:=match l[k.toNat]? with
 | some g=>g.known&&decide (g.kind≠0)
 | none=>false
theorem Qu (l:List FT) (f:FT):HL l f=(besP f).any (Jd l):=rfl

def Ez (links:Bool):Nat:=if links then 3 else 2
def waysP (l:List FT) (n:Int) (empty links:Bool):List (List FT)×Int :=
 if empty then (if (FA l n).2=0 then (if (DV l n).2=0 then ([(DV l n).1,(FA l n).1],0) else ([(FA l n).1],0)) else ([],(FA l n).2))
 else if (D0 l n 0).2=0 then ((List.range (Ez links+1)).map fun k=>(D0 l n k).1,0) else ([],(D0 l n 0).2)
theorem Zk (l:List FT) (n:Int) (k:Nat) (hk:k≤3):(D0 l n k).2=(D0 l n 0).2:=by
 unfold D0
 split
 · split
   · rfl
   · split
     · rfl
     · rw [if_neg (by omega),if_neg (by omega)]
 · rfl
theorem SD (l:List FT):wk (.sl 6 (.agg [.id,.id,(.sl 1 .id),(.sl 1 .id),.id,.id])) (fx l)=fx l:=by
 simp only [fx,wk]
theorem bu {k:Nat} (h:k≤3):IntKind.u8.wrap ((k:Int)+1)=((k+1:Nat):Int):=by
 rcases (by omega:k=0∨k=1∨k=2∨k=3) with rfl | rfl | rfl | rfl<;>rfl
theorem wkM_F:∀ l:List FT,wkM (.agg [.id,.id,(.sl 1 .id),(.sl 1 .id),.id,.id]) (l.map FT.av)=l.map FT.av
 | []=>by simp only [List.map_nil,wkM]
 | f::l=>by
   simp only [List.map_cons,wkM,wkM_F l,FT.av,wk,SC f]
theorem LF {l:List FT} {a:AV} (h:Ca 6 a (l.map FT.av)):wk (.sl 6 (.agg [.id,.id,(.sl 1 .id),(.sl 1 .id),.id,.id])) a=fx l:=h.wk (wkM_F l)

structure FOk (l:List FT):Prop where
 ok:∀ f∈l,f.Ok
 len:l.length < 2^34
 fl:(flatK l).length < 2^62
theorem WU {l:List FT} {i:Nat} {f g:FT} (h:l[i]? = some f) (hk:g.kids.length≤f.kids.length):(flatK (l.set i g)).length≤(flatK l).length:=by
 have hlt:=(List.getElem?_eq_some_iff.1 h).1
 have h1:flatK l=flatK (l.take i)++f.kids++flatK (l.drop (i+1)):=by
  rw [← I6 h]
  unfold flatK
  rw [← List.flatten_append,← List.map_append,List.take_append_drop]
 have h2:flatK (l.set i g)=flatK (l.take i)++g.kids++flatK (l.drop (i+1)):=by
  rw [List.set_eq_take_append_cons_drop,if_pos hlt]
  unfold flatK
  simp
 rw [h1,h2]
 simp only [List.length_append]
 omega
theorem FOk.set {l:List FT} (H:FOk l) {i:Nat} {f g:FT} (h:l[i]? = some f) (hg:g.Ok) (hk:g.kids.length≤f.kids.length):FOk (l.set i g) where
 ok:=fun x hx=>by
  rcases List.mem_or_eq_of_mem_set hx with hx | rfl
  · exact H.ok x hx
  · exact hg
 len:=by rw [List.length_set]; exact H.len
 fl:=Nat.lt_of_le_of_lt (WU h hk) H.fl
theorem FOk.nil:FOk []:=⟨fun f hf=>by simp at hf,by simp,by simp [flatK]⟩
theorem FOk.know {l:List FT} (H:FOk l) (n:Int) {k:Nat} (hk:k < 256):FOk (D0 l n k).1:=by
 unfold D0
 split
 · split
   · exact .nil
   · rename_i f hf
     split
     · exact .nil
     · split
       · exact .nil
       · exact H.set hf ⟨hk,by simp,by simp,by simp⟩ (by simp)
 · exact .nil
theorem FOk.more {l:List FT} (H:FOk l) (n:Int):FOk (FA l n).1:=by
 unfold FA
 split
 · split
   · exact .nil
   · rename_i f hf
     have hf':=H.ok f (List.mem_of_getElem? hf)
     split
     · exact .nil
     · exact H.set hf ⟨hf'.kind,hf'.names,hf'.nlen,hf'.klen⟩ (Nat.le_refl _)
 · exact .nil
theorem FOk.whole {l:List FT} (H:FOk l) (n:Int):FOk (DV l n).1:=by
 unfold DV
 split
 · split
   · exact .nil
   · rename_i f hf
     have hf':=H.ok f (List.mem_of_getElem? hf)
     split
     · exact .nil
     · split
       · exact .nil
       · exact H.set hf ⟨hf'.kind,hf'.names,hf'.nlen,hf'.klen⟩ (Nat.le_refl _)
 · exact .nil
theorem FOk.ways {l:List FT} (H:FOk l) (n:Int) (empty links:Bool):∀ w∈(waysP l n empty links).1,FOk w:=by
 unfold waysP
 intro w hw
 have hmk:Ez links≤3:=by unfold Ez; split<;>omega
 split at hw
 · split at hw
   · split at hw
     · simp only [List.mem_cons,List.not_mem_nil,or_false] at hw
       rcases hw with rfl | rfl
       · exact H.whole n
       · exact H.more n
     · simp only [List.mem_cons,List.not_mem_nil,or_false] at hw
       subst hw
       exact H.more n
   · simp at hw
 · split at hw
   · obtain ⟨k,hk,rfl⟩:=List.mem_map.1 hw
     rw [List.mem_range] at hk
     exact H.know n (by omega)
   · simp at hw
theorem Yq (l:List FT) (n:Int) (empty links:Bool):(waysP l n empty links).1.length≤4:=by
 have hmk:Ez links≤3:=by unfold Ez; split<;>omega
 unfold waysP
 split
 · split
   · split<;>simp
   · simp
 · split
   · simp; omega
   · simp
def OutA (s q:St) (a:AV) (l:List FT):Prop:=∃ R,Hp s q s.en R []∧(Ca 6 a (l.map FT.av)∨∃ fr,R[0]? = some ⟨6,48,a,l.map FT.av,fr⟩)
theorem OutA.pub {s q:St} {a:AV} {l:List FT} (h:OutA s q a l):∃ a' q',Am.pub q a=some (a',q')∧pubA q a=some (a',q')∧Ca 6 a' (l.map FT.av)∧(∃ R,Hp s q' s.en R []):=by
 obtain ⟨R,H,ht | ⟨fr,hR⟩⟩:=h
 · exact ⟨a,q,ht.pub q,ht.pubA q,ht,R,H⟩
 · obtain ⟨a',q',d,t,H',_⟩:=H.pub 0 hR
   refine ⟨a',q',d,?_,t,_,H'⟩
   have:=L7 (H.rows hR)
   simp only at this
   rw [this]
   exact d

attribute [local irreducible] W WO WE WQ WD Tr.get Tr.set
inductive ND.Ok:ND→Prop
 | mk {k:Nat} {t:List Nat} {ns:List (List Nat)} {ks:List ND}:k < 256→Txt t→t.length < 2^62→(∀ l∈ns,Txt l)→ns.length < 2^34→ks.length < 2^34→(∀ x∈ks,ND.Ok x)→ND.Ok (.mk k t ns ks)
theorem ND.Ok.kind {n:ND} (h:n.Ok):n.kind < 256:=by cases h; assumption
theorem ND.Ok.text {n:ND} (h:n.Ok):Txt n.text∧n.text.length < 2^62:=by cases h; exact ⟨by assumption,by assumption⟩
theorem ND.Ok.names {n:ND} (h:n.Ok):(∀ l∈n.names,Txt l)∧n.names.length < 2^34:=by cases h; exact ⟨by assumption,by assumption⟩
theorem ND.Ok.kids {n:ND} (h:n.Ok):(∀ k∈n.kids,k.Ok)∧n.kids.length < 2^34:=by cases h; exact ⟨by assumption,by assumption⟩
theorem MG (n:ND):FF n=if n.kind=1∨n.kind=3 then decide (n.names=[])&&(decide (n.kids.length=0)&&(decide (n.text.length≤256)&&(!n.text.contains 0&&(decide (n.kind=1)||decide (n.text≠[]))))) else
    if n.kind=2 then decide (n.text=[])&&(decide (n.names.length=n.kids.length)&&Fg none n.names n.kids) else false:=by
 cases n with
 | mk k t ns ks=>rw [FF]; rfl
theorem Lf {L:List (List Nat)} {i:Nat} {y:List Nat} (h:L[i]? = some y):(L.take (i+1)).getLast? = some y:=by
 rw [List.take_add_one,h]
 simp
theorem W7 : ∀ n : ND,n.Ok→∀ s,Wf s→(lim prog).call Ft [.agg n.cells] s=some (.b (FF n),s):=by
 refine ND.ind fun n ih ho s hw=>?_
 refine fn_W Qn rfl rfl ?_
 have H1:=(Hp.begin hw).new (.cells 37 n.cells)
 generalize hq:s.enter.new (.cells 37 n.cells)=q at H1
 generalize hm:s.enter.nb=m at H1
 have l0:=H1.ld 0 (off:=0) (v:=.i .u8 (n.kind:Nat)) rfl rfl
 have l1:=H1.ld 0 (off:=1) (v:=.s n.text) rfl rfl
 have l2:=H1.ld 0 (off:=2) (v:=tx n.names) rfl rfl
 have l3:=H1.ld 0 (off:=3) (v:=.ws false 4 (n.kids.map ND.av)) rfl rfl
 have hz0:wkZ A8.cin [.agg n.cells]=[.agg n.cells]:=by simp [A8,wkZ,wk,ND.cells]
 rw [hz0,MG]
 have hbr:∀ b,KR s [.id] (.b b) (some ([.b b],q)):=fun b=>AP H1.over rfl rfl
 have hib:=Gj n.text 0 (by omega) q
 have hi0:=idxB0 n.text 0
 by_cases c1:n.kind=1∨n.kind=3
 · rw [if_pos c1]
   have hsum:IntKind.i64.wrap ((n.names.length:Int)+(n.kids.length:Int))=((n.names.length+n.kids.length:Nat):Int):=by
    rw [show (n.names.length:Int)+(n.kids.length:Int)=((n.names.length+n.kids.length:Nat):Int) by omega]
    exact FG (by have:=ho.names.2; have:=ho.kids.2; omega)
   have hib:(lim prog).call CM [AV.s n.text,AV.i IntKind.u8 0] q=some (AV.i IntKind.i64 (idxB 0 0 n.text),q):=hib
   by_cases k1:n.kind=1
   · have e1:((n.kind:Int)=1)=True:=eq_true (by omega)
     have e2:True:=trivial
     by_cases d1:n.names.length+n.kids.length=0
     · have f1:(((n.names.length+n.kids.length:Nat):Int)=0)=True:=eq_true (by omega)
       have g1:n.names=[]:=List.length_eq_zero_iff.1 (by omega)
       have g2:n.kids.length=0:=by omega
       by_cases d2:n.text.length≤256
       · have f2:((n.text.length:Int)≤256)=True:=eq_true (by omega)
         by_cases d3:idxB 0 0 n.text < 0
         · have f3:(idxB 0 0 n.text < 0)=True:=by simp only [eq_iff_iff,iff_true]; exact d3
           rw [decide_eq_true d3] at hi0
           rw [← hi0,decide_eq_true g1,decide_eq_true g2,decide_eq_true d2,decide_eq_true k1]
           simp only [A8,go_sem,AD,AA,AC,AB,KB_n,KB_x,Nat.reduceBEq,Nat.reduceAdd,Nat.reduceLT,Nat.reduceLeDiff,Nat.reduceEqDiff,reduceIte,Int.reduceEq,reduceCtorEq,Ar,hq,hm,l0,l1,l2,l3,Nat.zero_add,e1,List.length_map,hsum,f1,f2,hib,f3]
           exact hbr _
         · have f3:(idxB 0 0 n.text < 0)=False:=by simp only [eq_iff_iff,iff_false]; exact d3
           rw [decide_eq_false d3] at hi0
           rw [← hi0]
           simp only [A8,go_sem,AD,AA,AC,AB,KB_n,KB_x,Nat.reduceBEq,Nat.reduceAdd,Nat.reduceLT,Nat.reduceLeDiff,Nat.reduceEqDiff,reduceIte,Int.reduceEq,reduceCtorEq,Ar,hq,hm,l0,l1,l2,l3,Nat.zero_add,e1,e2,List.length_map,hsum,f1,f2,hib,f3,Bool.false_and,Bool.and_false]
           exact hbr _
       · have f2:((n.text.length:Int)≤256)=False:=eq_false (by omega)
         simp only [A8,go_sem,AD,AA,AC,AB,KB_n,KB_x,Nat.reduceBEq,Nat.reduceAdd,Nat.reduceLT,Nat.reduceLeDiff,Nat.reduceEqDiff,reduceIte,Int.reduceEq,reduceCtorEq,Ar,hq,hm,l0,l1,l2,l3,Nat.zero_add,e1,e2,List.length_map,hsum,f1,f2,decide_eq_false d2,Bool.false_and,Bool.and_false]
         exact hbr _
     · have f1:(((n.names.length+n.kids.length:Nat):Int)=0)=False:=eq_false (by omega)
       have:(decide (n.names=[])&&(decide (n.kids.length=0)&&(decide (n.text.length≤256)&&(!n.text.contains 0&&(decide (n.kind=1)||decide (n.text≠[]))))))=false:=by
        by_cases g1:n.names=[]
        · have g2:n.kids.length≠0:=by intro h; exact d1 (by rw [g1,h]; rfl)
          simp [g2]
        · simp [g1]
       rw [this]
       simp only [A8,go_sem,AD,AA,AC,AB,KB_n,KB_x,Nat.reduceBEq,Nat.reduceAdd,Nat.reduceLT,Nat.reduceLeDiff,Nat.reduceEqDiff,reduceIte,Int.reduceEq,reduceCtorEq,Ar,hq,hm,l0,l1,l2,l3,Nat.zero_add,e1,e2,List.length_map,hsum,f1]
       exact hbr _
   · have e1 : ((n.kind:Int)=1)=False:=eq_false (by omega)
     have e2:((n.kind:Int)=3)=True:=eq_true (by omega)
     by_cases d1:n.names.length+n.kids.length=0
     · have f1:(((n.names.length+n.kids.length:Nat):Int)=0)=True:=eq_true (by omega)
       have g1:n.names=[]:=List.length_eq_zero_iff.1 (by omega)
       have g2:n.kids.length=0:=by omega
       by_cases d2:n.text.length≤256
       · have f2:((n.text.length:Int)≤256)=True:=eq_true (by omega)
         by_cases d3:idxB 0 0 n.text < 0
         · have f3:(idxB 0 0 n.text < 0)=True:=by simp only [eq_iff_iff,iff_true]; exact d3
           rw [decide_eq_true d3] at hi0
           rw [← hi0,decide_eq_true g1,decide_eq_true g2,decide_eq_true d2,decide_eq_false k1]
           by_cases d4:n.text=[]
           · have f4:(n.text≠[])=False:=by simp [d4]
             simp only [A8,go_sem,AD,AA,AC,AB,KB_n,KB_x,Nat.reduceBEq,Nat.reduceAdd,Nat.reduceLT,Nat.reduceLeDiff,Nat.reduceEqDiff,reduceIte,Int.reduceEq,reduceCtorEq,Ar,hq,hm,l0,l1,l2,l3,Nat.zero_add,e1,e2,List.length_map,hsum,f1,f2,hib,f3,f4,Bool.or_false]
             exact hbr _
           · have f4:(n.text≠[])=True:=by simp [d4]
             simp only [A8,go_sem,AD,AA,AC,AB,KB_n,KB_x,Nat.reduceBEq,Nat.reduceAdd,Nat.reduceLT,Nat.reduceLeDiff,Nat.reduceEqDiff,reduceIte,Int.reduceEq,reduceCtorEq,Ar,hq,hm,l0,l1,l2,l3,Nat.zero_add,e1,e2,List.length_map,hsum,f1,f2,hib,f3,f4]
             exact hbr _
         · have f3:(idxB 0 0 n.text < 0)=False:=by simp only [eq_iff_iff,iff_false]; exact d3
           rw [decide_eq_false d3] at hi0
           rw [← hi0]
           simp only [A8,go_sem,AD,AA,AC,AB,KB_n,KB_x,Nat.reduceBEq,Nat.reduceAdd,Nat.reduceLT,Nat.reduceLeDiff,Nat.reduceEqDiff,reduceIte,Int.reduceEq,reduceCtorEq,Ar,hq,hm,l0,l1,l2,l3,Nat.zero_add,e1,e2,List.length_map,hsum,f1,f2,hib,f3,Bool.false_and,Bool.and_false]
           exact hbr _
       · have f2:((n.text.length:Int)≤256)=False:=eq_false (by omega)
         simp only [A8,go_sem,AD,AA,AC,AB,KB_n,KB_x,Nat.reduceBEq,Nat.reduceAdd,Nat.reduceLT,Nat.reduceLeDiff,Nat.reduceEqDiff,reduceIte,Int.reduceEq,reduceCtorEq,Ar,hq,hm,l0,l1,l2,l3,Nat.zero_add,e1,e2,List.length_map,hsum,f1,f2,decide_eq_false d2,Bool.false_and,Bool.and_false]
         exact hbr _
     · have f1:(((n.names.length+n.kids.length:Nat):Int)=0)=False:=eq_false (by omega)
       have:(decide (n.names=[])&&(decide (n.kids.length=0)&&(decide (n.text.length≤256)&&(!n.text.contains 0&&(decide (n.kind=1)||decide (n.text≠[]))))))=false:=by
        by_cases g1:n.names=[]
        · have g2:n.kids.length≠0:=by intro h; exact d1 (by rw [g1,h]; rfl)
          simp [g2]
        · simp [g1]
       rw [this]
       simp only [A8,go_sem,AD,AA,AC,AB,KB_n,KB_x,Nat.reduceBEq,Nat.reduceAdd,Nat.reduceLT,Nat.reduceLeDiff,Nat.reduceEqDiff,reduceIte,Int.reduceEq,reduceCtorEq,Ar,hq,hm,l0,l1,l2,l3,Nat.zero_add,e1,e2,List.length_map,hsum,f1]
       exact hbr _
 · rw [if_neg c1]
   by_cases c2:n.kind=2
   · rw [if_pos c2]
     have e1:((n.kind:Int)=1)=False:=eq_false (by omega)
     have e2:((n.kind:Int)=3)=False:=eq_false (by omega)
     have e3:((n.kind:Int)=2)=True:=eq_true (by omega)
     by_cases d1:n.text=[]
     · have f1 : (n.text≠[])=False:=by simp [d1]
       by_cases d2:n.names.length=n.kids.length
       · have f2 : ((n.names.length:Int)≠(n.kids.length:Int))=False:=by simp only [ne_eq,eq_iff_iff,iff_false]; omega
         rw [decide_eq_true d1,decide_eq_true d2]
         simp only [A8,go_sem,AD,AA,AC,AB,KB_n,KB_x,Nat.reduceBEq,Nat.reduceAdd,Nat.reduceLT,Nat.reduceLeDiff,Nat.reduceEqDiff,reduceIte,Int.reduceEq,reduceCtorEq,Ar,hq,hm,l0,l1,l2,l3,Nat.zero_add,e1,e2,e3,List.length_map,f1,f2]
         refine Br (fun x e q=>∃ i:Nat,i+x=n.names.length∧Hp s q s.en [] [(m,.cells 37 n.cells)]∧Fg none (n.names.take i) (n.kids.take i)=true∧e.get 1=.p m 0∧e.get 55=tx n.names∧e.get 56=.i .i64 (n.names.length:Nat)∧e.get 57=.i .i64 (i:Nat)) ?_ n.names.length _ _ ?_
         · rintro x e q' ⟨i,hi,H,hwl,g1,g55,g56,g57⟩
           have l2:=H.ld 0 (off:=2) (v:=tx n.names) rfl rfl
           have l3:=H.ld 0 (off:=3) (v:=.ws false 4 (n.kids.map ND.av)) rfl rfl
           have hbr:∀ b,KR s [.id] (.b b) (some ([.b b],q')):=fun b=>AP H.over rfl rfl
           have hnl:=ho.names.2
           by_cases h:i < n.names.length
           · have h1:((i:Int) < (n.names.length:Int))=True:=eq_true (by omega)
             obtain ⟨y,hy⟩:∃ y,n.names[i]? = some y:=⟨_,List.getElem?_eq_getElem h⟩
             obtain ⟨k,hk⟩:∃ k,n.kids[i]? = some k:=⟨_,List.getElem?_eq_getElem (by omega)⟩
             have hy2:(n.names.map AV.s)[i]? = some (.s y):=by rw [List.getElem?_map,hy]; rfl
             have hk2:=Hu hk
             have hkm:k∈n.kids:=List.mem_of_getElem? hk
             have hym:y∈n.names:=List.mem_of_getElem? hy
             have hnm:=XJ y (ho.names.1 y hym) q' H.wf
             have hkc:=ih k hkm (ho.kids.1 k hkm) q' H.wf
             have hld:ldA q' true 4 (.ep k.cells 0 .shut)=some (.agg k.cells):=rfl
             have hw1:=Aj (show i+1 < 2^63 by omega)
             have htk:n.names.take (i+1)=n.names.take i++[y]:=by rw [List.take_add_one,hy]; rfl
             have htk2:n.kids.take (i+1)=n.kids.take i++[k]:=by rw [List.take_add_one,hk]; rfl
             have hsn:=LI none (n.names.take i) (n.kids.take i) y k (by rw [List.length_take,List.length_take]; omega)
             rw [← htk,← htk2,hwl,Bool.true_and] at hsn
             have hno:Fg none (n.names.take (i+1)) (n.kids.take (i+1))=false→Fg none n.names n.kids=false:=fun hf=>by
              rw [Bool.eq_false_iff]
              intro ht
              rw [LJ n none n.names n.kids (i+1) ht] at hf
              cases hf
             cases hn1:Fh y with
             | false =>
               rw [hn1] at hnm hsn
               rw [hno hsn]
               simp only [go_sem,AD,AA,AC,AB,KB_n,KB_x,Nat.reduceBEq,Nat.reduceAdd,Nat.reduceLT,Nat.reduceLeDiff,Nat.reduceEqDiff,reduceIte,Int.reduceEq,reduceCtorEq,g1,g55,g56,g57,h1,AH,hy2,CN,Dm,hnm]
               exact hbr _
             | true =>
             rw [hn1] at hnm hsn
             cases i with
             | zero =>
               have h2:((0:Int) < ((0:Nat):Int))=False:=by simp
               have hsn:Fg none (n.names.take (0+1)) (n.kids.take (0+1))=FF k:=by rw [hsn]; simp
               cases hwk:FF k with
               | false =>
                 rw [hwk] at hkc hsn
                 rw [hno hsn]
                 simp only [go_sem,AD,AA,AC,AB,KB_n,KB_x,Nat.reduceBEq,Nat.reduceAdd,Nat.reduceLT,Nat.reduceLeDiff,Nat.reduceEqDiff,reduceIte,Int.reduceEq,reduceCtorEq,g1,g55,g56,g57,h1,AH,hy2,CN,Dm,hnm,h2,l3,hk2,hld,AX,hkc,Nat.zero_add]
                 exact hbr _
               | true =>
                 rw [hwk] at hkc hsn
                 simp only [go_sem,AD,AA,AC,AB,KB_n,KB_x,Nat.reduceBEq,Nat.reduceAdd,Nat.reduceLT,Nat.reduceLeDiff,Nat.reduceEqDiff,reduceIte,Int.reduceEq,reduceCtorEq,g1,g55,g56,g57,h1,AH,hy2,CN,Dm,hnm,h2,l3,hk2,hld,AX,hkc,hw1]
                 exact ⟨x - 1,by omega,0+1,by omega,H,hsn,rfl⟩
             | succ i =>
               have h2:((0:Int) < ((i+1:Nat):Int))=True:=eq_true (by omega)
               obtain ⟨z,hz⟩:∃ z,n.names[i]? = some z:=⟨_,List.getElem?_eq_getElem (by omega)⟩
               have hz2:(n.names.map AV.s)[i]? = some (.s z):=by rw [List.getElem?_map,hz]; rfl
               have hsb:IntKind.i64.wrap (((i+1:Nat):Int) - 1)=(i:Int):=by
                rw [show ((i+1:Nat):Int) - 1=(i:Int) by omega]; exact FG (by omega)
               rw [Lf hz] at hsn
               have hsn:Fg none (n.names.take (i+1+1)) (n.kids.take (i+1+1))=(ltN z y&&FF k):=by rw [hsn]; simp
               have hle:(ltN y z||beqN y z)=!ltN z y:=KZ y z
               cases hzy:ltN z y with
               | false =>
                 rw [hzy] at hle hsn
                 rw [hno hsn]
                 simp only [go_sem,AD,AA,AC,AB,KB_n,KB_x,Nat.reduceBEq,Nat.reduceAdd,Nat.reduceLT,Nat.reduceLeDiff,Nat.reduceEqDiff,reduceIte,Int.reduceEq,reduceCtorEq,g1,g55,g56,g57,h1,AH,hy2,CN,Dm,hnm,h2,l2,hsb,hz2,Ld,hle,Nat.zero_add]
                 exact hbr _
               | true =>
                 rw [hzy] at hle hsn
                 cases hwk:FF k with
                 | false =>
                   rw [hwk] at hkc hsn
                   rw [hno hsn]
                   simp only [go_sem,AD,AA,AC,AB,KB_n,KB_x,Nat.reduceBEq,Nat.reduceAdd,Nat.reduceLT,Nat.reduceLeDiff,Nat.reduceEqDiff,reduceIte,Int.reduceEq,reduceCtorEq,g1,g55,g56,g57,h1,AH,hy2,CN,Dm,hnm,h2,l2,hsb,hz2,Ld,hle,l3,hk2,hld,AX,hkc,Nat.zero_add]
                   exact hbr _
                 | true =>
                   rw [hwk] at hkc hsn
                   simp only [go_sem,AD,AA,AC,AB,KB_n,KB_x,Nat.reduceBEq,Nat.reduceAdd,Nat.reduceLT,Nat.reduceLeDiff,Nat.reduceEqDiff,reduceIte,Int.reduceEq,reduceCtorEq,g1,g55,g56,g57,h1,AH,hy2,CN,Dm,hnm,h2,l2,hsb,hz2,Ld,hle,l3,hk2,hld,AX,hkc,hw1,Nat.zero_add]
                   exact ⟨x - 1,by omega,i+1+1,by omega,H,hsn,rfl⟩
           · have h1:((i:Int) < (n.names.length:Int))=False:=eq_false (by omega)
             rw [List.take_of_length_le (by omega),List.take_of_length_le (by omega)] at hwl
             rw [hwl]
             simp only [go_sem,AD,AA,AC,AB,KB_n,KB_x,Nat.reduceBEq,Nat.reduceAdd,Nat.reduceLT,Nat.reduceLeDiff,Nat.reduceEqDiff,reduceIte,Int.reduceEq,reduceCtorEq,g1,g55,g56,g57,h1]
             exact hbr _
         · simp only [go_sem,AD,AA,AC,AB,KB_n,KB_x,Nat.reduceBEq,Nat.reduceAdd,Nat.reduceLT,Nat.reduceLeDiff,Nat.reduceEqDiff,reduceIte,Int.reduceEq,reduceCtorEq]
           exact ⟨0,by omega,H1,by simp [Fg],rfl⟩
       · have f2:((n.names.length:Int)≠(n.kids.length:Int))=True:=by simp only [ne_eq,eq_iff_iff,iff_true]; omega
         rw [decide_eq_true d1,decide_eq_false d2]
         simp only [A8,go_sem,AD,AA,AC,AB,KB_n,KB_x,Nat.reduceBEq,Nat.reduceAdd,Nat.reduceLT,Nat.reduceLeDiff,Nat.reduceEqDiff,reduceIte,Int.reduceEq,reduceCtorEq,Ar,hq,hm,l0,l1,l2,l3,Nat.zero_add,e1,e2,e3,List.length_map,f1,f2]
         exact hbr _
     · have f1:(n.text≠[])=True:=by simp [d1]
       rw [decide_eq_false d1]
       simp only [A8,go_sem,AD,AA,AC,AB,KB_n,KB_x,Nat.reduceBEq,Nat.reduceAdd,Nat.reduceLT,Nat.reduceLeDiff,Nat.reduceEqDiff,reduceIte,Int.reduceEq,reduceCtorEq,Ar,hq,hm,l0,l1,l2,l3,Nat.zero_add,e1,e2,e3,List.length_map,f1]
       exact hbr _
   · rw [if_neg c2]
     have e1:((n.kind:Int)=1)=False:=eq_false (by omega)
     have e2:((n.kind:Int)=3)=False:=eq_false (by omega)
     have e3:((n.kind:Int)=2)=False:=eq_false (by omega)
     simp only [A8,go_sem,AD,AA,AC,AB,KB_n,KB_x,Nat.reduceBEq,Nat.reduceAdd,Nat.reduceLT,Nat.reduceLeDiff,Nat.reduceEqDiff,reduceIte,Int.reduceEq,reduceCtorEq,Ar,hq,hm,l0,Nat.zero_add,e1,e2,e3]
     exact hbr _

def mayN (n:ND):Bool:=decide (n.kind=2)&&(FF n&&(decide (nodesN n≤1024)&&decide (deepN n≤24)))
theorem cI (n:ND) (ho:n.Ok) (hb:nodesN n < 2^62) (s:St) (hw:Wf s):(lim prog).call JY [.agg n.cells] s=some (.b (mayN n),s):=by
 refine fn_W R6 rfl rfl ?_
 have H1:=(Hp.begin hw).new (.cells 37 n.cells)
 generalize hq:s.enter.new (.cells 37 n.cells)=q at H1
 generalize hm:s.enter.nb=m at H1
 have l0:=H1.ld 0 (off:=0) (v:=.i .u8 (n.kind:Nat)) rfl rfl
 have l1:=H1.ldw 0 (m:=4) rfl rfl
 have hz0:wkZ DK.cin [.agg n.cells]=[.agg n.cells]:=by simp [DK,wkZ,wk,ND.cells]
 rw [hz0]
 have h1:=W7 n ho q H1.wf
 have h2:=ZH n hb q H1.wf
 have h3:=ZI n hb q H1.wf
 have hbr:∀ b,KR s [.id] (.b b) (some ([.b b],q)):=fun b=>AP H1.over rfl rfl
 unfold mayN
 by_cases c1:n.kind=2
 · have e1:((n.kind:Int)=2)=True:=eq_true (by omega)
   rw [decide_eq_true c1]
   cases c2:FF n with
   | false =>
     rw [c2] at h1
     simp only [DK,go_sem,AD,AA,AC,AB,KB_n,KB_x,Nat.reduceBEq,Nat.reduceAdd,Nat.reduceLT,Nat.reduceLeDiff,Nat.reduceEqDiff,reduceIte,Int.reduceEq,reduceCtorEq,Ar,hq,hm,l0,l1,Nat.zero_add,e1,AX,h1]
     exact hbr _
   | true =>
     rw [c2] at h1
     by_cases c3:nodesN n≤1024
     · have e3:(((nodesN n:Nat):Int)≤1024)=True:=eq_true (by omega)
       rw [decide_eq_true c3]
       by_cases c4:deepN n≤24
       · have e4:(((deepN n:Nat):Int)≤24)=True:=eq_true (by omega)
         rw [decide_eq_true c4]
         simp only [DK,go_sem,AD,AA,AC,AB,KB_n,KB_x,Nat.reduceBEq,Nat.reduceAdd,Nat.reduceLT,Nat.reduceLeDiff,Nat.reduceEqDiff,reduceIte,Int.reduceEq,reduceCtorEq,Ar,hq,hm,l0,l1,Nat.zero_add,e1,AX,h1,h2,h3,e3,e4]
         exact hbr _
       · have e4:(((deepN n:Nat):Int)≤24)=False:=eq_false (by omega)
         rw [decide_eq_false c4]
         simp only [DK,go_sem,AD,AA,AC,AB,KB_n,KB_x,Nat.reduceBEq,Nat.reduceAdd,Nat.reduceLT,Nat.reduceLeDiff,Nat.reduceEqDiff,reduceIte,Int.reduceEq,reduceCtorEq,Ar,hq,hm,l0,l1,Nat.zero_add,e1,AX,h1,h2,h3,e3,e4]
         exact hbr _
     · have e3:(((nodesN n:Nat):Int)≤1024)=False:=eq_false (by omega)
       rw [decide_eq_false c3]
       simp only [DK,go_sem,AD,AA,AC,AB,KB_n,KB_x,Nat.reduceBEq,Nat.reduceAdd,Nat.reduceLT,Nat.reduceLeDiff,Nat.reduceEqDiff,reduceIte,Int.reduceEq,reduceCtorEq,Ar,hq,hm,l0,l1,Nat.zero_add,e1,AX,h1,h2,h3,e3]
       exact hbr _
 · have e1:((n.kind:Int)=2)=False:=eq_false (by omega)
   rw [decide_eq_false c1]
   simp only [DK,go_sem,AD,AA,AC,AB,KB_n,KB_x,Nat.reduceBEq,Nat.reduceAdd,Nat.reduceLT,Nat.reduceLeDiff,Nat.reduceEqDiff,reduceIte,Int.reduceEq,reduceCtorEq,Ar,hq,hm,l0,l1,Nat.zero_add,e1]
   exact hbr _
theorem ZJ (l:List ND):AV.refs.go (l.map ND.av)=false:=by
 induction l with
 | nil=>rfl
 | cons a l il=>simp only [List.map_cons,AV.refs.go,SO,il,Bool.or_self]
theorem le14:(1≤4)=True:=by simp
theorem al4 (k:ND):Ah 4 [AV.agg k.cells]=true:=rfl
theorem wkM_av (c:CT) (l:List ND) (hc:∀ k∈l,wk c k.av=k.av):wkM c (l.map ND.av)=l.map ND.av:=by
 induction l with
 | nil=>rfl
 | cons a l ih=>simp only [List.map_cons,wkM,hc a (by simp),ih fun k hk=>hc k (by simp [hk])]
theorem own_ok:∀ n:ND,n.Ok→∀ s,Wf s→(lim prog).call Hn [.agg n.cells] s=some (.agg n.cells,s):=by
 refine ND.ind fun n ih ho s hw=>?_
 refine fn_W R9 rfl rfl ?_
 have H0:=(Hp.begin hw).new (.cells 37 n.cells)
 generalize hq:s.enter.new (.cells 37 n.cells)=q at H0
 generalize hm:s.enter.nb=m at H0
 have H1:=H0.new (.cells 37 [.i .u8 0,.s [],.nsl,.nsl])
 generalize hq1:q.new (.cells 37 [.i .u8 0,.s [],.nsl,.nsl])=q1 at H1
 generalize hm1:q.nb=m1 at H1
 have l1:=H1.ld 1 (off:=2) (v:=tx n.names) rfl rfl
 have hn:=ho.names.2
 have hk:=ho.kids.2
 obtain ⟨r,q2,d2,H2,_⟩:=TN H1 n.names (by omega)
 obtain ⟨q3,d3,H3,_⟩:=H2.st 1 (off:=2) (v:=r) rfl (by simp [ND.cells]) ⟨(H2.rcells 0 rfl).1,(H2.rcells 0 rfl).2.1⟩
 have l2:=H3.ld 1 (off:=3) (v:=.ws false 4 (n.kids.map ND.av)) rfl rfl
 have hz0:wkZ Ff.cin [.agg n.cells]=[.agg n.cells]:=by simp [Ff,wkZ,wk,ND.cells]
 rw [hz0]
 simp only [Ff,go_sem,AD,AA,AC,AB,KB_n,KB_x,Nat.reduceBEq,Nat.reduceAdd,Nat.reduceLT,Nat.reduceLeDiff,Nat.reduceEqDiff,reduceIte,Int.reduceEq,reduceCtorEq,Ar,hq,hm,hq1,hm1,l1,d2,d3,l2,Nat.zero_add,List.length_map]
 refine Br (fun x e q=>∃ (i:Nat) (a:AV),i+x=n.kids.length∧Hp s q s.en [⟨4,37,a,(n.kids.take i).map ND.av,true⟩,⟨1,9,r,n.names.map .s,true⟩] [(m1,.cells 37 [.i .u8 0,.s [],.nsl,.nsl]),(m,.cells 37 [.i .u8 (n.kind:Nat),.s n.text,r,.ws false 4 (n.kids.map ND.av)])] ∧
  e.get 1=.p m 0∧e.get 2=.p m1 0∧e.get 3=a∧e.get 11=.ws false 4 (n.kids.map ND.av)∧e.get 12=.i .i64 (n.kids.length:Nat)∧e.get 13=.i .i64 (i:Nat)) ?_ n.kids.length _ _ ?_
 · rintro x e q' ⟨i,a,hi,H,g1,g2,g3,g11,g12,g13⟩
   by_cases h:i < n.kids.length
   · have e1:((i:Int) < (n.kids.length:Int))=True:=eq_true (by omega)
     obtain ⟨k,hk1⟩:∃ k,n.kids[i]? = some k:=⟨_,List.getElem?_eq_getElem h⟩
     have hmem:k∈n.kids:=List.mem_of_getElem? hk1
     have hget:=Hu hk1
     have H4:=H.new (.cells 37 [.i .u8 0,.s [],.nsl,.nsl])
     generalize hq4:q'.new (.cells 37 [.i .u8 0,.s [],.nsl,.nsl])=q4 at H4
     generalize hj:q'.nb=j at H4
     obtain ⟨q5,d5,H5,_⟩:=H4.stw 0 (v:=.agg k.cells) (m:=4) rfl rfl ⟨Ar k,Pq k⟩
     have l3:=H5.ldw 0 (m:=4) rfl rfl
     have hc:=ih k hmem (ho.kids.1 k hmem) q5 H5.wf
     obtain ⟨a',q6,d6,H6,_⟩:=H5.app 0 (y:=.sl 4 [.agg k.cells] .full) (ys:=[.agg k.cells]) rfl (by simp [elems,St.ok]) (by simp [List.length_take]; omega)
     have htk:(n.kids.take (i+1)).map ND.av=(n.kids.take i).map ND.av++[.agg k.cells]:=by
      rw [List.take_add_one,hk1]; simp [ND.av_eq]
     have hw1:=Aj (show i+1 < 2^63 by omega)
     have hld:ldA q' true 4 (.ep k.cells 0 .shut)=some (.agg k.cells):=rfl
     simp only [go_sem,AD,AA,AC,AB,KB_n,KB_x,Nat.reduceBEq,Nat.reduceAdd,Nat.reduceLT,Nat.reduceLeDiff,Nat.reduceEqDiff,reduceIte,Int.reduceEq,reduceCtorEq,g1,g2,g3,g11,g12,g13,e1,AH,hget,hld,hq4,hj,d5,l3,hc,AX,al4,Yg,le14,d6,hw1]
     refine ⟨x - 1,by omega,i+1,a',by omega,?_,rfl,rfl⟩
     rw [htk]
     exact H6.sel [0,1] [1,2] (by simp) (by simp)
   · have e1:((i:Int) < (n.kids.length:Int))=False:=eq_false (by omega)
     obtain rfl:i=n.kids.length:=by omega
     obtain ⟨q4,d4,H4,_⟩:=H.st 1 (off:=3) (v:=a) rfl (by simp) ⟨(H.rcells 0 rfl).1,(H.rcells 0 rfl).2.1⟩
     have l5:ldA q4 true 4 (.p m 0)=some (.agg [.i .u8 (n.kind:Nat),.s n.text,r,a]):=H4.ldw 1 (m:=4) rfl rfl
     obtain ⟨r',q5,d5,t5,H5,_⟩:=H4.pub 1 rfl
     obtain ⟨a',q6,d6,t6,H6,_⟩:=H5.pub 0 rfl
     obtain ⟨q7,d7,H7,_⟩:=H6.stw 0 (v:=.agg [.i .u8 (n.kind:Nat),.s n.text,r',a']) (m:=4) rfl rfl ⟨rfl,by simp only [Cd,Am.ones,t5.ones,t6.ones]⟩
     have l7:=H7.ldw 0 (m:=4) rfl rfl
     simp only [go_sem,AD,AA,AC,AB,KB_n,KB_x,Nat.reduceBEq,Nat.reduceAdd,Nat.reduceLT,Nat.reduceLeDiff,Nat.reduceEqDiff,reduceIte,Int.reduceEq,reduceCtorEq,g1,g2,g3,g11,g12,g13,e1,d4,l5,d5,d6,d7,l7,t5.frz,t6.frz,Nat.zero_add]
     refine AP H7.over ?_ ?_
     · simp only [CZ,AV.refs,AV.refs.go,t5.refs (Gh _),t6.refs (ZJ _),Bool.or_self]
     · rw [List.take_length] at t6
       have hc:∀ (c:CT),∀ k∈n.kids,wk (.agg [.id,.id,.sl 1 .id,.sl 4 c]) k.av=k.av:=fun c k _=>by
        rw [ND.av_eq]; simp [wk,wkZ,ND.cells]
       simp only [CZ,wkZ,wk,t5.wk (QH _),t6.wk (wkM_av _ _ (hc _))]
       rfl
 · simp only [go_sem,AD,AA,AC,AB,KB_n,KB_x,Nat.reduceBEq,Nat.reduceAdd,Nat.reduceLT,Nat.reduceLeDiff,Nat.reduceEqDiff,reduceIte,Int.reduceEq,reduceCtorEq]
   exact ⟨0,.nsl,by omega,H3.addFull 4 37 true .nil,rfl,rfl⟩
end Go.Proofs.YtgloinighjdhlaaGreat

namespace Go.Proofs.YtgloinighjdhlaaGreat
open Go.Proofs.YtgloinighjdhlaaGreat.Am
mutual
def Lu:ND→Nat
 | .mk _ t ns ks=>4+t.length+(ns.map fun l=>1+l.length).sum+XW ks
def XW:List ND→Nat
 | []=>0
 | k::ks=>Lu k+XW ks
end
theorem RM:∀ l:List ND,XW l=(l.map Lu).sum
 | []=>by simp [XW]
 | k::l=>by simp only [XW,RM l,List.map_cons,List.sum_cons]
theorem Tp (n:ND):Lu n=4+n.text.length+(n.names.map fun l=>1+l.length).sum+(n.kids.map Lu).sum:=by
 cases n with
 | mk a t ns ks=>simp only [Lu,RM,ND.kids,ND.text,ND.names]
theorem Ud:∀ n:ND,nodesN n≤Lu n:=by
 refine ND.ind fun n ih=>?_
 rw [FE,Tp]
 have:∀ l:List ND,(∀ k∈l,nodesN k≤Lu k)→(l.map nodesN).sum≤(l.map Lu).sum:=by
  intro l
  induction l with
  | nil=>intro _; exact Nat.le_refl _
  | cons a l il =>
    intro h
    have h1:=h a (by simp)
    have h2:=il fun k hk=>h k (by simp [hk])
    simp only [List.map_cons,List.sum_cons]
    omega
 have:=this n.kids ih
 omega

def belowF (l:List FT):Nat→Nat→List (List Nat)→List (Nat×List (List Nat))
 | 0,_,_=>[]
 | d+1,n,p=>(n,p)::(match l[n]? with
   | some f=>((f.kids.zip f.names).map fun x=>belowF l d x.1.toNat (p++[x.2])).flatten
   | none=>[])
def XK (f:FT) (k:Int):List Nat:=match f.kids.findIdx? (·==k) with
 | some i=>f.names.getD i []
 | none=>[]
def IB (l:List FT):Nat→Nat→List (List Nat)
 | 0,_=>[]
 | d + 1,n=>if n=0 then [] else match F0 l (n:Int) with
   | some u=>match l[u]? with
     | some f=>IB l d u++[XK f (n:Int)]
     | none=>[]
   | none=>[]
structure MayD (l:List FT):Prop where
 one:∀ f∈l,f.one=true
 pos:0 < l.length
 up:∀ j:Nat,1≤j→j < l.length→∃ u f,F0 l (j:Int)=some u∧u < j∧l[u]? = some f∧(j:Int)∈f.kids
 kid:∀ (i:Nat) (f:FT),l[i]? = some f→∀ k∈f.kids,(i:Int) < k∧k < (l.length:Int)∧F0 l k=some i
theorem Fi {f:FT} (h:f.one=true):f.names.length=f.kids.length:=by
 unfold FT.one FT.bad at h
 simp only [Bool.and_eq_true,Bool.not_eq_true',Bool.or_eq_false_iff,decide_eq_false_iff_not] at h
 omega
theorem mayD {l:List FT} (h:mayP l=true):MayD l:=by
 cases l with
 | nil=>simp [mayP] at h
 | cons f t =>
   have h2:=h
   rw [Yo] at h2
   simp only [Bool.and_eq_true,List.all_eq_true,decide_eq_true_eq] at h2
   obtain ⟨hd,hone,hfl,hup⟩:=h2
   have h3:=WR (f::t) (by simp)
   rw [show (decide ((flatK (f::t)).length=(f::t).length - 1)&&upB (f::t))=true by simp [hfl,hup]] at h3
   simp only [Bool.and_eq_true,Eu,TO] at h3
   obtain ⟨hbe,hon⟩:=h3
   refine ⟨hone,by simp,fun j h1 h2=>?_,fun i x hi k hk=>?_⟩
   · obtain ⟨u,f',k1,k2,k3⟩:=LD (hon j h1 (by omega))
     have:=hbe u f' k2 _ k3
     exact ⟨u,f',k1,by omega,k2,k3⟩
   · have:=hbe i x hi k hk
     obtain ⟨j,rfl⟩:∃ j:Nat,k=(j:Int):=⟨k.toNat,by omega⟩
     exact ⟨by omega,by omega,TQ (hon j (by omega) (by omega)) hi hk⟩
theorem UY {l:List FT} (h:MayD l):∀ (n d:Nat),n < l.length→n < d→IB l d n=IB l (n+1) n:=by
 intro n
 induction n using Nat.strongRecOn with
 | _ n ih =>
   intro d hn hd
   cases d with
   | zero=>omega
   | succ d =>
     rw [IB,IB]
     by_cases h0:n=0
     · rw [if_pos h0,if_pos h0]
     · rw [if_neg h0,if_neg h0]
       obtain ⟨u,f,h1,h2,h3,h4⟩:=h.up n (by omega) hn
       rw [h1]
       simp only [h3]
       rw [ih u h2 d (by omega) (by omega),ih u h2 n (by omega) (by omega)]
def climb (l:List FT) (n:Nat):List (List Nat):=IB l (n+1) n
theorem LL (l:List FT):climb l 0=[]:=by simp [climb,IB]
theorem Oe {l:List FT} (h:MayD l) {n:Nat} (h1:1≤n) (h2:n < l.length) {u:Nat} {f:FT} (hu:F0 l (n:Int)=some u) (hlt:u < n) (hf:l[u]? = some f):climb l n=climb l u++[XK f (n:Int)]:=by
 unfold climb
 rw [IB,if_neg (by omega),hu]
 simp only [hf]
 rw [UY h u n (by omega) hlt]
theorem Of {l:List FT} (h:mayP l=true) {i:Nat} {f:FT} (hf:l[i]? = some f):f.kids.Nodup:=by
 rw [List.nodup_iff_count]
 intro k
 by_cases hk:k∈f.kids
 · have hd:=mayD h
   have h1:=hd.kid i f hf k hk
   have h2:cntK l k=1:=by
    have:=h1.2.2
    unfold F0 at this
    split at this
    · assumption
    · cases this
   have h3:(flatK (l.take (i+1))).count k≤(flatK l).count k:=by
    have:flatK l=flatK (l.take (i+1))++flatK (l.drop (i+1)):=by
     unfold flatK
     rw [← List.flatten_append,← List.map_append,List.take_append_drop]
    rw [this,List.count_append]; omega
   rw [I6 hf,List.count_append] at h3
   unfold cntK at h2
   omega
 · rw [List.count_eq_zero_of_not_mem hk]; omega
theorem Ps {L:List Int} (h:L.Nodup) {i:Nat} {k:Int} (hk:L[i]? = some k):L.findIdx? (·==k)=some i:=by
 rw [List.findIdx?_eq_some_iff_getElem]
 rw [List.getElem?_eq_some_iff] at hk
 obtain ⟨hi,hk⟩:=hk
 refine ⟨hi,by simp [hk],fun j hj=>?_⟩
 simp only [beq_iff_eq,Bool.not_eq_true,beq_eq_false_iff_ne]
 intro he
 have:=List.pairwise_iff_getElem.1 h j i (by omega) hi hj
 exact this (by rw [he,hk])
theorem cP {l:List FT} (h:mayP l=true) {u:Nat} {f:FT} (hf:l[u]? = some f) {i:Nat} {k:Int} {s:List Nat} (hk:f.kids[i]? = some k) (hs:f.names[i]? = some s):XK f k=s:=by
 unfold XK
 rw [Ps (Of h hf) hk]
 simp [hs]
theorem NW {l:List FT} (h:mayP l=true) {u:Nat} {f:FT} (hf:l[u]? = some f) {i:Nat} {k:Int} {s:List Nat} (hk:f.kids[i]? = some k) (hs:f.names[i]? = some s):climb l k.toNat=climb l u++[s]:=by
 have hd:=mayD h
 have h1:=hd.kid u f hf k (List.mem_of_getElem? hk)
 obtain ⟨j,rfl⟩:∃ j:Nat,k=(j:Int):=⟨k.toNat,by omega⟩
 rw [Int.toNat_natCast,Oe hd (by omega) (by omega) h1.2.2 (by omega) hf,cP h hf hk hs]
theorem SU {α β:Type} {a:List α} {b:List β} {x:α×β} (h:x∈a.zip b):∃ i:Nat,a[i]? = some x.1∧b[i]? = some x.2:=by
 obtain ⟨i,hi⟩:=List.mem_iff_getElem?.1 h
 rw [List.getElem?_zip_eq_some] at hi
 exact ⟨i,hi⟩
theorem NX {l:List FT} (h:mayP l=true):∀ (d n:Nat) {x:Nat×List (List Nat)},n < l.length→x∈belowF l d n (climb l n)→x.1 < l.length∧x.2=climb l x.1
 | 0,n,x,_,hx=>by simp [belowF] at hx
 | d + 1,n,x,hn,hx=>by
   rw [belowF] at hx
   rcases List.mem_cons.1 hx with rfl | hx
   · exact ⟨hn,rfl⟩
   · obtain ⟨f,hf⟩:∃ f,l[n]? = some f:=⟨_,List.getElem?_eq_getElem hn⟩
     rw [hf] at hx
     simp only [List.mem_flatten,List.mem_map] at hx
     obtain ⟨L,⟨⟨k,s⟩,hz,rfl⟩,hx⟩:=hx
     obtain ⟨i,hk,hs⟩:=SU hz
     have h1:=(mayD h).kid n f hf k (List.mem_of_getElem? hk)
     simp only at hk hs hx
     rw [← NW h hf hk hs] at hx
     exact NX h d k.toNat (by omega) hx
theorem XL {l:List FT} (h:mayP l=true):∀ m,m < l.length→∃ d,l.length - m≤d∧∀ x∈belowF l d m (climb l m),x∈belowF l l.length 0 (climb l 0):=by
 intro m
 induction m using Nat.strongRecOn with
 | _ m ih =>
   intro hm
   by_cases h0:m=0
   · subst h0
     exact ⟨l.length,by omega,fun x hx=>hx⟩
   · have hd:=mayD h
     obtain ⟨u,f,h1,h2,h3,h4⟩:=hd.up m (by omega) hm
     obtain ⟨d,k1,k2⟩:=ih u h2 (by omega)
     obtain ⟨i,hi⟩:=List.mem_iff_getElem?.1 h4
     have hnk:=Fi (hd.one f (List.mem_of_getElem? h3))
     have hil:i < f.kids.length:=by rw [List.getElem?_eq_some_iff] at hi; exact hi.1
     obtain ⟨s,hs⟩:∃ s,f.names[i]? = some s:=⟨_,List.getElem?_eq_getElem (by omega)⟩
     cases d with
     | zero=>omega
     | succ d =>
       refine ⟨d,by omega,fun x hx=>k2 x ?_⟩
       rw [belowF,h3]
       refine List.mem_cons_of_mem _ ?_
       simp only [List.mem_flatten,List.mem_map]
       refine ⟨_,⟨((m:Int),s),?_,rfl⟩,?_⟩
       · refine List.mem_iff_getElem?.2 ⟨i,?_⟩
         rw [List.getElem?_zip_eq_some]
         exact ⟨hi,hs⟩
       · simp only [Int.toNat_natCast]
         have:=NW h h3 hi hs
         rw [Int.toNat_natCast] at this
         rw [← this]
         exact hx
theorem XM {l:List FT} (h:mayP l=true) {m:Nat} (hm:m < l.length):∃ j:Nat,(belowF l l.length 0 [])[j]? = some (m,climb l m):=by
 obtain ⟨d,k1,k2⟩:=XL h m hm
 rw [LL] at k2
 cases d with
 | zero=>omega
 | succ d =>
   exact List.mem_iff_getElem?.1 (k2 _ (by rw [belowF]; exact List.mem_cons_self))

theorem bw {α:Type} {L:List α} {i:Nat} {x:α} (h:L[i]? = some x):L.drop i=x::L.drop (i+1):=by
 obtain ⟨h1,h2⟩:=List.getElem?_eq_some_iff.1 h
 rw [List.drop_eq_getElem_cons h1,h2]



attribute [local irreducible] W WO WE WQ WD Tr.get Tr.set
end Go.Proofs.YtgloinighjdhlaaGreat

namespace Go.Proofs.YtgloinighjdhlaaGreat
open Go.Proofs.YtgloinighjdhlaaGreat.Am
def CF (f:FT) (c:List AV):Prop:=∃ a b,Ca 1 a (f.names.map .s)∧Ca 1 b (f.kids.map iv)∧c=[.b f.known,.i .u8 (f.kind:Nat),a,b,.i .i64 f.rest,.i .i64 f.beside]
def GF (l:List FT) (G:List (List AV)):Prop:=G.length=l.length∧∀ (i:Nat) (f:FT),l[i]? = some f→∃ c,G[i]? = some c∧CF f c
theorem CF.self (f:FT):CF f f.cells:=⟨tx f.names,zx f.kids,.ws,.ws,rfl⟩
theorem GF.self (l:List FT):GF l (l.map FT.cells):=⟨by simp,fun i f h=>⟨f.cells,by rw [List.getElem?_map,h]; rfl,CF.self f⟩⟩
theorem GF.mem {l:List FT} {G:List (List AV)} (h:GF l G) {c:List AV} (hc:c∈G):∃ f,f∈l∧CF f c:=by
 obtain ⟨i,hi,rfl⟩:=List.mem_iff_getElem.1 hc
 have hl:i < l.length:=by rw [← h.1]; exact hi
 obtain ⟨c,hc,hf⟩:=h.2 i l[i] (List.getElem?_eq_getElem hl)
 rw [List.getElem?_eq_getElem hi] at hc
 cases hc
 exact ⟨l[i],List.getElem_mem hl,hf⟩
theorem UK {a b:AV} {xs ys:List AV} (ha:Ca 1 a xs) (hb:Ca 1 b ys) (l:List AV):ones (a::b::l)=ones l:=by
 rcases ha with ⟨rfl,_⟩ | ⟨rfl,_⟩ | rfl | rfl | rfl | rfl<;>rcases hb with ⟨rfl,_⟩ | ⟨rfl,_⟩ | rfl | rfl | rfl | rfl<;>rfl
theorem GF.ones {l:List FT} {G:List (List AV)} (h:GF l G):∀ c∈G,Am.ones c=true:=fun c hc=>by
 obtain ⟨f,_,a,b,ha,hb,rfl⟩:=h.mem hc
 show Am.ones (a::b::_)=true
 rw [UK ha hb]
 rfl
theorem CF.wk {f:FT} {c:List AV} (h:CF f c):wkZ [CT.id,.id,(.sl 1 .id),(.sl 1 .id),.id,.id] c=f.cells:=by
 obtain ⟨a,b,ha,hb,rfl⟩:=h
 have h1:=ha.wk (c:=.id) (QH f.names)
 have h2:=hb.wk (c:=.id) (Rl f.kids)
 simp only [wkZ,h1,h2]
 simp only [Am.wk,FT.cells,tx,zx]
theorem GF.wk {l:List FT} {G:List (List AV)} (h:GF l G):G.map (fun c=>wkZ [CT.id,.id,(.sl 1 .id),(.sl 1 .id),.id,.id] c)=l.map FT.cells:=by
 apply List.ext_getElem?
 intro i
 rw [List.getElem?_map,List.getElem?_map]
 by_cases hi:i < l.length
 · obtain ⟨c,hc,hf⟩:=h.2 i l[i] (List.getElem?_eq_getElem hi)
   rw [hc,List.getElem?_eq_getElem hi]
   simp only [Option.map_some,hf.wk]
 · rw [List.getElem?_eq_none (by have:=h.1; omega),List.getElem?_eq_none (by omega)]; rfl
theorem GF.set {l:List FT} {G:List (List AV)} (h:GF l G) {i:Nat} {g:FT} {c:List AV} (hi:i < l.length) (hc:CF g c):GF (l.set i g) (G.set i c):=by
 refine ⟨by rw [List.length_set,List.length_set]; exact h.1,fun j f hj=>?_⟩
 have hG:=h.1
 rw [List.getElem?_set] at hj ⊢
 by_cases hij:i=j
 · rw [if_pos hij,if_pos hi] at hj
   cases hj
   rw [if_pos hij,if_pos (by omega)]
   exact ⟨c,rfl,hc⟩
 · rw [if_neg hij] at hj ⊢
   exact h.2 j f hj
theorem CF.refs {f:FT} {c:List AV} (h:CF f c):AV.refs.go c=false:=by
 obtain ⟨a,b,ha,hb,rfl⟩:=h
 simp only [AV.refs.go,ha.refs (Gh _),hb.refs (L8 _)]
 rfl
theorem GF.refs {l:List FT} {G:List (List AV)} (h:GF l G):AV.refs.go (G.map AV.agg)=false:=by
 have:∀ G:List (List AV),(∀ c∈G,AV.refs.go c=false)→AV.refs.go (G.map AV.agg)=false:=by
  intro G
  induction G with
  | nil=>intro _; rfl
  | cons c G ih =>
    intro hG
    simp only [List.map_cons,AV.refs.go,ih fun x hx=>hG x (List.mem_cons_of_mem _ hx),AV.refs,hG c List.mem_cons_self]
    rfl
 exact this G fun c hc=>by
  obtain ⟨f,_,hf⟩:=h.mem hc
  exact hf.refs
theorem Yr (L:List Int):still (zx L)=true:=by
 simp [still,zx,beqA,Ko]
def RowO (s0 q:St) (n:En) (v:AV) (l:List FT) (G:List (List AV)):Prop:=(Hp s0 q n [⟨6,48,v,l.map FT.av,true⟩] []∧Au v≠none∧G=l.map FT.cells)∨(∃ id,v=.bl id 6 0 l.length (l.length*6,false)∧Hp s0 q n [] [(id,.row 48 G.flatten false 0)])
theorem RowO.thaw {s0 q:St} {n:En} {v:AV} {l:List FT} {G:List (List AV)} (h:RowO s0 q n v l G) (f:FT) :
    ∃ q1,stA (q.new (.cells 48 [.b false,.i .u8 0,.nsl,.nsl,.i .i64 0,.i .i64 0])) 6 (.p q.nb 0) (.agg f.cells)=some q1∧∃ id q2,G1 q1 v=some (.bl id 6 0 l.length (l.length*6,false),q2)∧Hp s0 q2 n [] [(id,.row 48 G.flatten false 0),(q.nb,.cells 48 f.cells)]:=by
 rcases h with ⟨H,hv,rfl⟩ | ⟨id,rfl,H⟩
 · obtain ⟨q1,d1,H1,n1⟩:=H.adp (T:=48) (m:=6) (z:=[.b false,.i .u8 0,.nsl,.nsl,.i .i64 0,.i .i64 0]) (v:=.agg f.cells) rfl ⟨rfl,rfl⟩
   obtain ⟨q2,d2,H2,n2⟩:=H1.thaw 0 rfl hv [] (by simp) (by simp)
   rw [← bo,Qt] at H2
   rw [List.length_map] at d2
   exact ⟨q1,d1,_,q2,d2,H2⟩
 · obtain ⟨q1,d1,H1,n1⟩:=H.adp (T:=48) (m:=6) (z:=[.b false,.i .u8 0,.nsl,.nsl,.i .i64 0,.i .i64 0]) (v:=.agg f.cells) rfl ⟨rfl,rfl⟩
   exact ⟨q1,d1,id,q1,rfl,H1.sel [] [1,0] (by simp) (by simp)⟩
end Go.Proofs.YtgloinighjdhlaaGreat

namespace Go.Proofs.YtgloinighjdhlaaGreat
theorem TS {α:Type} {l:List α} {i:Nat} {f:α} (h:l[i]? = some f):l.set i f=l:=by
 apply List.ext_getElem?
 intro j
 rw [List.getElem?_set]
 by_cases hj:i=j
 · subst hj
   rw [if_pos rfl,if_pos (List.getElem?_eq_some_iff.1 h).1,h]
 · rw [if_neg hj]

open Go.Proofs.YtgloinighjdhlaaGreat.Am
abbrev apAI:C:=subC Ag.body [1,0,1,0,0]
abbrev apCI:C:=subC Ag.body [1,0,1,0,1]
def AII (L:List Int) (s:St) (k ido:Nat) (e:Tr) (j:Nat) (q:St):Prop :=
 q.box? k=some (.loop 0 none e [7] apAI apCI)∧RP 1 (k+1) s.nt s.nt 3 46 ido ((L.take j).map iv) q∧(j=0→q.box? ido=some (.cells 46 [.nsl]))
theorem bz {L:List Int} {s:St} {k ido:Nat} {e:Tr} (hido:ido < k) (hs:s.nb≤ido) (hl:L.length < 2^37) (g2:e.get 2=.p ido 0) :
    Body prog (fun _=>False) s (k+1) s.nt (.yld k) (L.map iv) (AII L s k ido e) (fun _=>False) where
 stab:=fun j q q' ⟨h1,h2,h3⟩ f=>⟨by rw [f.box k (by omega) (by simp)]; exact h1,h2.fr (by omega) (by simp) f,fun hj=>by rw [f.box ido (by omega) (by simp)]; exact h3 hj⟩
 stab0:=fun q q' h f=>⟨by rw [f.box k (by omega) (by simp)]; exact h.1,h.2.1.fr0 (fun a k' h1 h2=>by rw [h.2.2 rfl] at h1; cases h1; simp [Au] at h2) (by omega) (by simp) f,fun hj=>by rw [f.box ido (by omega) (by simp)]; exact h.2.2 hj⟩
 stabR:=fun _ _ h _=>h
 step:=by
  intro j hj q ⟨hk,hI,_⟩ hov hw hh ht
  have hj':j < L.length:=by simpa using hj
  have hLj:(L.map iv)[j]=.i .i64 L[j]:=by simp [iv]
  rw [hLj]
  obtain ⟨x,hx⟩:∃ x,L[j]=x:=⟨_,rfl⟩
  rw [hx]
  have hst:L.take (j+1)=L.take j++[x]:=by rw [List.take_succ_eq_append_getElem hj',hx]
  have hylen:(L.take j).length≤L.length:=by simp; omega
  obtain ⟨Y,hY⟩:∃ Y,L.take j=Y:=⟨_,rfl⟩
  rw [hY] at hI hst hylen
  obtain ⟨q1,hq1⟩:∃ q1,q.setBox k (.loop 1 none e [7] apAI apCI)=q1:=⟨_,rfl⟩
  have w1:Wf q1:=by rw [← hq1]; exact hw.setBox _ _
  have nb1:q1.nb=q.nb∧q1.nt=q.nt∧q1.lo=q.lo:=by rw [← hq1]; exact ⟨rfl,rfl,rfl⟩
  have bx1:∀ i,q1.box? i=if i=k then some (.loop 1 none e [7] apAI apCI) else q.box? i:=fun i=>by rw [← hq1]; exact setBox_box? hw.b (by omega) i
  have ov1:Over s q1:=by rw [← hq1]; exact Over.setBox hov (by omega) (by omega) _
  obtain ⟨a,hb,hr,htok⟩:=hI
  have hb1:q1.box? ido=some (.cells 46 [a]):=by rw [bx1,if_neg (by omega)]; exact hb
  have hr1:RowP 1 s.nt q1 3 a (Y.map iv):=hr.mono (by omega) fun k _=>by rw [← hq1]; rfl
  have lda:=D3 (s:=q1) (v:=a) (off:=0) hb1 rfl
  have b1k:=bx1 k
  rw [if_pos rfl] at b1k
  have hel:elems q1 1 (.sl 1 [.i .i64 x] .full)=some [.i .i64 x]:=by simp [elems,St.ok]
  have al:Ah 1 [AV.i .i64 x]=true:=rfl
  obtain ⟨a',q2,e2,hr2,hg,href,hc⟩:=YC w1 (by omega) hr1 hel (by simp) (by simp; omega)
  have hm:Y.map iv++[AV.i .i64 x]=(Y++[x]).map iv:=by simp [iv]
  rw [hm] at hr2
  obtain ⟨q3,e3,r3,nb3,nt3,w3,bx3,ov3⟩:=RP.store (h:=k+1) (tB:=s.nt) hb1 hg hr2 hc href w1 (by omega) (by omega)
  have b3k:q3.box? k=some (.loop 1 none e [7] apAI apCI):=by rw [bx3 k (by omega)]; exact b1k
  have hfin:∀ e':Tr,YK k (Vj (fun _=>False) (k+1) s q (AII L s k ido e (j+1)) (fun _=>False)) .n e' q3:=fun e'=>by
   refine Ib b3k (by omega) w3 (ov3 s hs (Nat.le_refl _) (by omega) ov1) (by omega) (by omega) (by omega) (by simp) (fun i hi hlt=>by have hi':k+1≤i:=hi.resolve_left id; rw [bx3 i (by omega),bx1,if_neg (by omega)]) (fun _=>⟨?_,?_,fun hh=>by simp at hh⟩) (fun hh=>by simp at hh) (fun i hh=>by simp at hh)
   · rw [setBox_box? w3.b (by omega),if_pos rfl]
   · rw [hst]
     exact r3.fr (O:=fun i=>i=k) (by omega) (show ¬ (ido=k) by omega) (Fr.setBox (O:=fun i=>i=k) (tB:=s.nt) (h:=k+1) (id:=k) w3 (by omega) (.inr rfl) (by omega) _)
  refine K4 ?_
  refine PL (t:=e.set 10 7 (.i .i64 x)) hk rfl ?_
  simp only [apAI,Ag,subC,go_sem,Al,AL,AK,AM,Ak,KB_n,KB_x,Nat.reduceBEq,Nat.reduceAdd,Nat.reduceLT,Nat.reduceLeDiff,Nat.reduceEqDiff,reduceIte,Int.reduceEq,reduceCtorEq]
  refine ⟨_,_,_,_,hk,?_⟩
  rw [hq1]
  have hz:a=.nsl∨∃ k v,a=.sl 1 (Y.map iv) (.tok k v):=by
   rcases hr with ⟨rfl,_⟩ | ⟨k,v,t,rfl,_⟩
   · exact .inl rfl
   · exact .inr ⟨k,v,rfl⟩
  rcases hz with rfl | ⟨k',v,rfl⟩ <;>
   (simp only [apCI,Ag,subC,go_sem,Al,AL,AK,AM,Ak,KB_n,KB_x,Nat.reduceBEq,Nat.reduceAdd,Nat.reduceLT,Nat.reduceLeDiff,Nat.reduceEqDiff,reduceIte,Int.reduceEq,reduceCtorEq,g2,Nat.zero_add,lda,al,e2,e3]
    exact hfin _)
theorem Qv {L:List Int} (hl:L.length < 2^37) {g:Nat} {caps:List AV} {s:St} (hw:Wf s) (hit:∀ q,(∀ i,i < s.nb→q.box? i=s.box? i)→s.nb≤q.nb→Vi prog (fun _=>False) q.nb g caps (L.map iv) q) :
    ∃ r s',(lim prog).call C6 [.nsl,.fn g caps] s=some (r,s')∧RowP 1 s.nt s' 3 r (L.map iv)∧Up s s':=by
 refine fn_K (t:=4) (Post:=fun r s'=>RowP 1 s.nt s' 3 r (L.map iv)∧Up s s') Ge rfl rfl rfl rfl ?_
 obtain ⟨q2,hq2⟩:∃ q2,s.enter.new (.cells 46 [.nsl])=q2:=⟨_,rfl⟩
 have w2:Wf q2:=by rw [← hq2]; exact hw.enter.new _
 have n2:q2.nb=s.nb+1∧q2.nt=s.nt∧q2.lo=s.nb:=by rw [← hq2]; exact ⟨rfl,rfl,rfl⟩
 have ov2:Over s q2:=by rw [← hq2]; exact (Over.enter s).new _
 have bo2:q2.box? s.nb=some (.cells 46 [.nsl]):=by rw [← hq2]; exact BG s.enter _
 have bx2:∀ i,i < s.nb→q2.box? i=s.box? i:=fun i hi=>by rw [← hq2]; exact CK (s:=s.enter) hi
 have hnb:s.enter.nb=s.nb:=rfl
 have c1:AV.nsl.cells=[.nsl]:=rfl
 have hl1:∀ a:AV,[a].length=1:=fun _=>rfl
 simp only [Ag,go_sem,Al,AL,AK,AM,Ak,KB_n,KB_x,Nat.reduceBEq,Nat.reduceAdd,Nat.reduceLT,Nat.reduceLeDiff,Nat.reduceEqDiff,reduceIte,Int.reduceEq,reduceCtorEq,hnb,c1,hl1,hq2]
 refine W_cut (fun e=>e.get 2=.p s.nb 0∧e.get 6=.fn g caps) ⟨?_,?_⟩ ?_
 · simp only [go_sem,Al,AL,AK,AM,Ak,KB_n,KB_x,Nat.reduceBEq,Nat.reduceAdd,Nat.reduceLT,Nat.reduceLeDiff,Nat.reduceEqDiff,reduceIte,Int.reduceEq,reduceCtorEq]
 · simp only [go_sem,Al,AL,AK,AM,Ak,KB_n,KB_x,Nat.reduceBEq,Nat.reduceAdd,Nat.reduceLT,Nat.reduceLeDiff,Nat.reduceEqDiff,reduceIte,Int.reduceEq,reduceCtorEq]
 rintro e ⟨g2,g6⟩
 obtain ⟨q3,hq3⟩:∃ q3,q2.new (.loop 0 none e [7] apAI apCI)=q3:=⟨_,rfl⟩
 have w3:Wf q3:=by rw [← hq3]; exact w2.new _
 have n3:q3.nb=s.nb+2∧q3.nt=s.nt:=by rw [← hq3]; exact ⟨by show q2.nb+1=_; omega,n2.2.1⟩
 have ov3:Over s q3:=by rw [← hq3]; exact ov2.new _
 have bx3:∀ i,i < q2.nb→q3.box? i=q2.box? i:=fun i hi=>by rw [← hq3]; exact CK hi
 have bk3:q3.box? q2.nb=some (.loop 0 none e [7] apAI apCI):=by rw [← hq3]; exact BG _ _
 obtain ⟨q4,hc4,ov4,w4,n4,t4,hI4⟩:=hit q3 (fun i hi=>by rw [bx3 i (by omega),bx2 i hi]) (by omega) s (q2.nb+1) s.nt q2.nb _ _
  (bz (k:=q2.nb) (ido:=s.nb) (e:=e) (by omega) (Nat.le_refl _) hl g2)
  ⟨bk3,⟨.nsl,by rw [bx3 _ (by omega)]; exact bo2,.inl ⟨rfl,rfl⟩,fun k hk=>by simp [Au] at hk⟩,fun _=>by rw [bx3 _ (by omega)]; exact bo2⟩ ov3 w3 (by omega) (by omega) (by omega) (by omega)
 rw [← hq3] at hc4
 refine W_rf g6 hc4 ?_
 rcases hI4 with ⟨k1,⟨a,k2,k3,k4⟩,_⟩ | h
 · refine ⟨_,_,_,_,_,_,k1,by decide,?_⟩
   have b5:(q4.setBox q2.nb .used).box? s.nb=some (.cells 46 [a]):=by rw [setBox_box? w4.b (by omega),if_neg (by omega)]; exact k2
   have lda:=D3 (s:=q4.setBox q2.nb .used) (v:=a) (off:=0) b5 rfl
   have ov5:Over s (q4.setBox q2.nb .used):=Over.setBox ov4 (by omega) (by omega) _
   have w5:Wf (q4.setBox q2.nb .used):=w4.setBox _ _
   rw [List.length_map,List.take_length] at k3
   have hfin:RowP 1 s.nt { q4.setBox q2.nb .used with lo:=min s.lo (q4.setBox q2.nb .used).lo } 3 a (L.map iv):=k3.mono (Nat.le_refl _) fun _ _=>rfl
   rcases Ub k3 with ⟨rfl,_⟩ | ⟨k,v,rfl⟩ <;>
    (simp only [go_sem,Al,AL,AK,AM,Ak,KB_n,KB_x,Nat.reduceBEq,Nat.reduceAdd,Nat.reduceLT,Nat.reduceLeDiff,Nat.reduceEqDiff,reduceIte,Int.reduceEq,reduceCtorEq,KK_n,KK_r,g2,lda,Nat.zero_add]
     exact ⟨hfin,Up.of ov5 w5⟩)
 · exact h.elim
theorem UL {L:List Int} (hl:L.length < 2^37) {g:Nat} {caps:List AV} {s:St} (hw:Wf s) (hit:∀ q,(∀ i,i < s.nb→q.box? i=s.box? i)→s.nb≤q.nb→Vi prog (fun _=>False) q.nb g caps (L.map iv) q) :
    ∃ r s',(lim prog).call EV [.fn g caps] s=some (r,s')∧RowP 1 s.nt s' 3 r (L.map iv)∧Up s s':=by
 refine fn_K (t:=2) (Post:=fun r s'=>RowP 1 s.nt s' 3 r (L.map iv)∧Up s s') JD rfl rfl rfl rfl ?_
 obtain ⟨r,s',h,hr,hu⟩:=Qv (s:=s.enter) hl hw.enter hit
 have hov:Over s s':=hu.over s (Over.enter s)
 have hfin:RowP 1 s.nt { s' with lo:=min s.lo s'.lo } 3 r (L.map iv):=hr.mono (Nat.le_refl _) fun _ _=>rfl
 simp only [Ce,go_sem,Al,AL,AK,AM,Ak,KB_n,KB_x,Nat.reduceBEq,Nat.reduceAdd,Nat.reduceLT,Nat.reduceLeDiff,Nat.reduceEqDiff,reduceIte,Int.reduceEq,reduceCtorEq,KK_n,KK_r,h]
 exact ⟨hfin,Up.of hov hu.wf⟩

attribute [local irreducible] W WO WE WQ WD Tr.get Tr.set
theorem UM {m a:Nat} {L:List Int} (hl:L.length < 2^40) {s:St} (ha:s.box? a=some (.cells 46 [zx L])) (la:a < s.nb) :
    Vi prog (fun _=>False) m Ac [.p a 0] (L.map iv) s:=by
 intro s0 h tB ky I R B hI hov hw hh ht h0 _
 obtain ⟨r,s',hcall,rfl,hres⟩:=fn_G (f:=Ac) (args:=[.yld ky,.p a 0]) (s:=s) (Post:=fun r s'=>r=.tup []∧Over s0 s'∧Wf s'∧s.nb≤s'.nb∧s.nt≤s'.nt∧(I L.length s'∨R s')) Gu rfl rfl (by
  have hend:∀ q,Over s0 q→Wf q→s.nb≤q.nb→s.nt≤q.nt→(I L.length q∨R q)→KH s [] (fun r s'=>r=.tup []∧Over s0 s'∧Wf s'∧s.nb≤s'.nb∧s.nt≤s'.nt∧(I L.length s'∨R s')) (some ([],q)):=fun q k1 k2 k3 k4 k5=>by
   obtain ⟨f1,f2,f3,f4,f5⟩:=YB (O:=fun _=>False) (h:=h) (tB:=tB) (v:=.tup []) k2 hh k3 k4 ht rfl
   refine ⟨_,_,rfl,rfl,f5 s0 hov k1,f2,f3,f4,k5.imp (fun k=>B.stab _ _ _ k f1) fun k=>B.stabR _ _ k f1⟩
  have lda:=D3 (s:=s.enter) (v:=zx L) (off:=0) ha rfl
  unfold zx at lda
  have hz0:wkZ A4.cin [.yld ky,.p a 0]=[.yld ky,.p a 0]:=by simp [A4,wkZ,wk]
  rw [hz0]
  simp only [A4,go_sem,AD,AA,AC,AB,KB_n,KB_x,Nat.reduceBEq,Nat.reduceAdd,Nat.reduceLT,Nat.reduceLeDiff,Nat.reduceEqDiff,reduceIte,Int.reduceEq,reduceCtorEq,lda,List.length_map]
  refine Br (fun n e q=>∃ j:Nat,j+n=L.length∧I j q∧Over s0 q∧Wf q∧s.nb≤q.nb∧s.nt≤q.nt∧e.get 0=.yld ky∧e.get 5=zx L∧e.get 6=.i .i64 (L.length:Nat)∧e.get 7=.i .i64 (j:Nat)) ?_ L.length _ _ ?_
  · rintro n e q ⟨j, hn, hIj, hovq, hwq, hnb, hnt,g0,g5,g6,g7⟩
    by_cases hj:j < L.length
    · have h1:((j:Int) < (L.length:Int))=True:=eq_true (by omega)
      obtain ⟨z,hz⟩:∃ z,L[j]? = some z:=⟨_,List.getElem?_eq_getElem hj⟩
      have hz2:=M7 hz
      have hw1:=Aj (show j+1 < 2^63 by omega)
      have hLj:(L.map iv)[j]'(by simpa using hj)=.i .i64 z:=by
       rw [List.getElem_map,(List.getElem?_eq_some_iff.1 hz).2]; rfl
      obtain ⟨bb,q',hstep,ht1,hf1,hov1,hw2,hnb1,hnt1,hkeep⟩:=B.step j (by simpa using hj) q hIj hovq hwq (by omega) (by omega)
      rw [hLj] at hstep
      cases bb with
      | true =>
        simp only [go_sem,AD,AA,AC,AB,KB_n,KB_x,Nat.reduceBEq,Nat.reduceAdd,Nat.reduceLT,Nat.reduceLeDiff,Nat.reduceEqDiff,reduceIte,Int.reduceEq,reduceCtorEq,g0,g5,g6,g7,zx,h1,AH,hz2,Ee,Dm,hstep,hw1]
        exact ⟨n - 1,by omega,j+1,by omega,ht1 rfl,hov1,hw2,by omega,by omega,rfl⟩
      | false =>
        simp only [go_sem,AD,AA,AC,AB,KB_n,KB_x,Nat.reduceBEq,Nat.reduceAdd,Nat.reduceLT,Nat.reduceLeDiff,Nat.reduceEqDiff,reduceIte,Int.reduceEq,reduceCtorEq,g0,g5,g6,g7,zx,h1,AH,hz2,Ee,Dm,hstep]
        exact hend q' hov1 hw2 (by omega) (by omega) (.inr (hf1 rfl))
    · have h1:((j:Int) < (L.length:Int))=False:=eq_false (by omega)
      simp only [go_sem,AD,AA,AC,AB,KB_n,KB_x,Nat.reduceBEq,Nat.reduceAdd,Nat.reduceLT,Nat.reduceLeDiff,Nat.reduceEqDiff,reduceIte,Int.reduceEq,reduceCtorEq,g0,g5,g6,g7,h1]
      exact hend q hovq hwq hnb hnt (.inl (by have:j=L.length:=by omega
                                              rw [← this]; exact hIj))
  · simp only [go_sem,AD,AA,AC,AB,KB_n,KB_x,Nat.reduceBEq,Nat.reduceAdd,Nat.reduceLT,Nat.reduceLeDiff,Nat.reduceEqDiff,reduceIte,Int.reduceEq,reduceCtorEq]
    exact ⟨0,by omega,B.stab0 _ _ hI (Fr0.enter hh),hov.toEnter,hw.enter,Nat.le_refl _,Nat.le_refl _,rfl,rfl⟩)
 obtain ⟨k1,k2,k3,k4,k5⟩:=hres
 exact ⟨s',hcall,k1,k2,k3,k4,by simpa using k5⟩

theorem M9:∀ {n:Nat} {l:List AV},l.length=n→Gn 1 n l=l
 | 0,[],_=>rfl
 | n+1,a::l,h=>by
   simp only [List.length_cons,Nat.add_right_cancel_iff] at h
   rw [Gn,if_pos rfl,List.take_succ_cons,List.take_zero,List.drop_succ_cons,List.drop_zero,M9 h]
   rfl
theorem Qw:∀ L:List Int,ones (L.map iv)=true
 | []=>rfl
 | z::L=>Qw L
theorem Ys {s:St} {L:List Int} {id T rm:Nat} {fz:Bool} {p:Nat×Bool} (hb:s.box? id=some (.row T (L.map iv) fz rm)) :
    frz s (.bl id 1 0 L.length p)=some (.sl 1 (L.map iv) .shut,s.setBox id (.row T (L.map iv) true rm)):=by
 have hc:cut (L.map iv) 0 (L.length*1)=some (L.map iv):=by
  unfold cut
  rw [List.drop_zero,Nat.mul_one,List.take_of_length_le (by simp),if_pos (by simp)]
 simp only [frz,hb,hc]
 rw [if_pos ⟨Nat.zero_le _,Qw L,by decide⟩,M9 (by simp)]
theorem Qx {L:List Int} (hl:L.length < 2^36) {s:St} (hw:Wf s) {a:Nat} (ha:s.box? a=some (.cells 46 [zx L])) (la:a < s.nb) :
    (lim prog).call Dc [.fn Ac [.p a 0]] s=some (zx (Ds L),s):=by
 refine fn_W Ja rfl rfl ?_
 have hz0:wkZ BZ.cin [.fn Ac [.p a 0]]=[.fn Ac [.p a 0]]:=by simp [BZ,wkZ,wk]
 rw [hz0]
 obtain ⟨r,s1,hc,hr,hu⟩:=UL (L:=L) (by omega) hw.enter (s:=s.enter) (g:=Ac) (caps:=[.p a 0]) fun q h1 h2=>UM (by omega) (by rw [h1 a la]; exact ha) (Nat.lt_of_lt_of_le la h2)
 have hov:Over s s1:=hu.over s (Over.enter s)
 rcases hr with ⟨rfl,hL⟩ | ⟨k,v,t,rfl,k1,k2,k3,k4,k5,k6,k7⟩
 · rw [List.map_eq_nil_iff] at hL
   subst hL
   have hp:(lim prog).call C8 [.nsl] s1=some (.tup [],s1):=(Dq Fw rfl).trans rfl
   have hth:G1 s1 .nsl=some (.nsl,s1):=rfl
   simp only [BZ,go_sem,AD,AA,AC,AB,KB_n,KB_x,Nat.reduceBEq,Nat.reduceAdd,Nat.reduceLT,Nat.reduceLeDiff,Nat.reduceEqDiff,reduceIte,Int.reduceEq,reduceCtorEq,hc,hth,hp]
   exact AP hov rfl (by simp [Ds,CZ,wkZ,wk,zx])
 · have K:Hp s s1 ⟨s1.lo,s.nb,s.nt⟩ [⟨1,3,.sl 1 (L.map iv) (.tok k v),L.map iv,true⟩] []:={
    wf:=hu.wf
    over:=hov
    lo:=Nat.le_refl _
    nb:=hov.nb
    nt:=hov.nt
    rows:=fun {i r} hi=>by
     cases i with
     | zero =>
       simp only [List.getElem?_cons_zero,Option.some.injEq] at hi
       subst hi
       exact .inr ⟨k,v,t,rfl,k1,k2,k3,k4,k5,k6,fun _=>k7⟩
     | succ i=>simp at hi
    apart:=fun {i j r r' k} hij hi hj=>by
     cases i with
     | zero=>cases j with
       | zero=>exact absurd rfl hij
       | succ j=>simp at hj
     | succ i=>simp at hi
    box:=fun {i p} hi=>by simp at hi
    bapart:=fun {i j p q} _ hi _=>by simp at hi }
   obtain ⟨q2,d2,H2,n2⟩:=K.thaw 0 rfl (by simp [Au]) [] (by simp) (by simp)
   rw [Rk] at H2
   rw [List.length_map,Nat.mul_one] at d2
   obtain ⟨q3,d3,H3,n3⟩:=H2.sortI 0 rfl (by omega) (L.length,false)
   have hp:(lim prog).call C8 [.bl s1.nb 1 0 L.length (L.length,false)] q2=some (.tup [],q3):=(Dq Fw rfl).trans d3
   have hbx:=(H3.box (i:=0) rfl).1
   have hfz:=Ys (L:=Ds L) (p:=(L.length,false)) hbx
   rw [GR] at hfz
   have hpa:pubA q3 (.bl s1.nb 1 0 L.length (L.length,false))=_:=hfz
   have H4:=H3.setBox (i:=0) rfl (.row 3 ((Ds L).map iv) true 0)
   simp only [BZ,go_sem,AD,AA,AC,AB,KB_n,KB_x,Nat.reduceBEq,Nat.reduceAdd,Nat.reduceLT,Nat.reduceLeDiff,Nat.reduceEqDiff,reduceIte,Int.reduceEq,reduceCtorEq,hc,d2,hp,hpa]
   refine AP H4.over (by simp only [CZ,AV.refs,L8]) ?_
   simp only [CZ,wkZ,wk,Rl]
   rfl
theorem Qy (L:List Int) (s:St):(lim prog).call Bx [zx L] s=some (.fn Ac [.p s.nb 0],{ s.new (.cells 46 [zx L]) with lo:=min s.lo s.nb }):=by
 obtain ⟨r,s',h,rfl,rfl⟩:=fn_G (f:=Bx) (args:=[zx L]) (s:=s) (Post:=fun r s'=>r=.fn Ac [.p s.nb 0]∧s'={ s.new (.cells 46 [zx L]) with lo:=min s.lo s.nb }) Hr rfl rfl (by
  have hz0:wkZ BP.cin [zx L]=[zx L]:=by simp only [BP,wkZ,zx,wk]
  have hl1:∀ a:AV,[a].length=1:=fun _=>rfl
  rw [hz0]
  simp only [BP,go_sem,AD,AA,AC,AB,KB_n,KB_x,Nat.reduceBEq,Nat.reduceAdd,Nat.reduceLT,Nat.reduceLeDiff,Nat.reduceEqDiff,reduceIte,Int.reduceEq,reduceCtorEq,zx,hl1]
  exact ⟨_,_,rfl,rfl,I8 rfl⟩)
 exact h
theorem WV {l:List FT} (hm:mayP l=true) {s q:St} (ho:Over s q) {b:Nat} (hb:s.box? b=some (.cells 22 [fx l])) (lb:b < s.nb) {i:Nat} {f:FT} (hf:l[i]? = some f) {z:Int} (hz:z∈besP f) (hwq:Wf q) :
    DZ (lim prog) (.fn D5 [.p b 0]) [.i .i64 z] q=some (.b (Jd l z),q):=by
 show (lim prog).call D5 [.i .i64 z,.p b 0] q=_
 refine fn_W M1 rfl rfl ?_
 have hbq:q.box? b=some (.cells 22 [fx l]):=by rw [Pb ho lb]; exact hb
 have lbq:b < q.nb:=Nat.lt_of_lt_of_le lb ho.nb
 have ld:=Hs (Over.enter q) (off:=0) (v:=fx l) lbq hbq rfl
 obtain ⟨j,g,rfl,hg⟩:=br hm hf (bq hz)
 have hg3:=JH hg
 have l0:∀ u,ldA u false 1 (.ep g.cells 0 .shut)=some (.b g.known):=fun u=>rfl
 have l1:∀ u,ldA u false 1 (.ep g.cells 1 .shut)=some (.i .u8 (g.kind:Nat)):=fun u=>rfl
 have hit:Jd l (j:Int)=(g.known&&decide (g.kind≠0)):=by
  unfold Jd
  rw [Int.toNat_natCast,hg]
 have hkk:((g.kind:Int)≠0)=(g.kind≠0):=by simp
 have hth:G1 q.enter (.p b 0)=some (.p b 0,q.enter):=by
  have hbq':q.enter.box? b=some (.cells 22 [fx l]):=hbq
  simp only [G1,hbq',fx]; rfl
 unfold fx at ld
 rw [hit]
 cases hkn:g.known
 · rw [hkn] at l0
   simp only [DU,go_sem,AD,AA,AC,AB,KB_n,KB_x,Nat.reduceBEq,Nat.reduceAdd,Nat.reduceLT,Nat.reduceLeDiff,Nat.reduceEqDiff,reduceIte,Int.reduceEq,reduceCtorEq,hth,ld,AH,hg3,Cd,l0,l1,hkk]
   exact AP (Over.enter q) rfl rfl
 · rw [hkn] at l0
   simp only [DU,go_sem,AD,AA,AC,AB,KB_n,KB_x,Nat.reduceBEq,Nat.reduceAdd,Nat.reduceLT,Nat.reduceLeDiff,Nat.reduceEqDiff,reduceIte,Int.reduceEq,reduceCtorEq,hth,ld,AH,hg3,Cd,l0,l1,hkk]
   refine AP (Over.enter q) rfl ?_
   simp only [CZ,wkZ,wk,Bool.true_and]
theorem Yt {l:List FT} (hm:mayP l=true) {i:Nat} {f:FT} (hf:l[i]? = some f) (hfo:f.Ok) (hb0:0≤f.beside) (hb1:f.beside≤(f.kids.length:Int)) (s:St) (hw:Wf s) :
    (lim prog).call Cj [fx l,.agg f.cells] s=some (.b (HL l f),s):=by
 refine fn_W KA rfl rfl ?_
 have hz0:wkZ Df.cin [fx l,.agg f.cells]=[fx l,.agg f.cells]:=by
  have:=SC f
  simp only [Df,wkZ,wk,fx] at this ⊢
  rw [this]
 rw [hz0]
 have H1:=((Hp.begin hw).new (.cells 22 [fx l])).new (.cells 48 f.cells)
 generalize hq:(s.enter.new (.cells 22 [fx l])).new (.cells 48 f.cells)=q at H1
 generalize hm1:s.enter.nb=m1 at H1
 have hm2:(s.enter.new (.cells 22 [fx l])).nb=m1+1:=by rw [← hm1]; rfl
 rw [hm2] at H1
 have l3:=H1.ld 0 (off:=3) (v:=zx f.kids) rfl rfl
 have l5:=H1.ld 0 (off:=5) (v:=.i .i64 f.beside) rfl rfl
 have hv:=Qy f.kids q
 obtain ⟨q2,hq2⟩:∃ q2,({ q.new (.cells 46 [zx f.kids]) with lo:=min q.lo q.nb }:St)=q2:=⟨_,rfl⟩
 rw [hq2] at hv
 have ov1:=H1.over
 have w2:Wf q2:=by rw [← hq2]; exact (H1.wf.new _).lo _
 have ov2:Over s q2:=by rw [← hq2]; exact Over.setLo (ov1.new _) (by have:=ov1.lo; have:=ov1.nb; omega)
 have nq2:q2.nb=q.nb+1:=by rw [← hq2]; rfl
 have bq2:q2.box? q.nb=some (.cells 46 [zx f.kids]):=by rw [← hq2]; exact BG q _
 have bold:∀ j,j < q.nb→q2.box? j=q.box? j:=fun j hj=>by rw [← hq2]; exact CK (s:=q) hj
 have hs:=Qx (L:=f.kids) (by have:=hfo.klen; omega) w2 bq2 (by omega)
 have h1b:=H1.box (i:=1) rfl
 have h0b:=H1.box (i:=0) rfl
 simp only at h1b h0b
 have b1:q2.box? m1=some (.cells 22 [fx l]):=by rw [bold _ h1b.2.2]; exact h1b.1
 have b0:q2.box? (m1+1)=some (.cells 48 f.cells):=by rw [bold _ h0b.2.2]; exact h0b.1
 have l5':=D3 (s:=q2) (v:=.i .i64 f.beside) (off:=5) b0 rfl
 have hc:=M8 (besP f) (by
  unfold besP
  rw [List.length_drop,GR]
  have:=hfo.klen; omega) D5 [.p m1 0] (Jd l) q2 w2 (fun z hz=>WV hm (Over.enter q2) b1 (by have:=h1b.2.2; omega) hf hz w2.enter)
 obtain ⟨B,hB⟩:∃ B:Nat,f.beside=(B:Int):=⟨f.beside.toNat,by omega⟩
 have hsl:Bk q2 false 1 (zx (Ds f.kids)) (some (.i .i64 (B:Nat))) none none=some (zx (besP f),q2):=by
  have hlen:B≤(Ds f.kids).length:=by rw [GR]; omega
  have hbd:Cb ((Ds f.kids).map iv).length (some (.i .i64 (B:Nat))) none=some (B,(Ds f.kids).length):=by
   simp only [Cb,AH,List.length_map]
   rw [if_pos ⟨hlen,Nat.le_refl _⟩]
  have hbs:besP f=(Ds f.kids).drop B:=by unfold besP; rw [hB,Int.toNat_natCast]
  simp only [zx,Bk,if_true,hbd]
  by_cases hw0:B=0
  · subst hw0
    rw [if_pos ⟨rfl,by simp⟩,hbs,List.drop_zero]
  · rw [if_neg (fun h=>hw0 h.1),hbs,List.map_drop,List.take_of_length_le (by simp)]
 rw [hB] at l5 l5'
 unfold zx at hs hv l3 hsl hc
 unfold fx at hq hm2
 simp only [Df,go_sem,AD,AA,AC,AB,KB_n,KB_x,Nat.reduceBEq,Nat.reduceAdd,Nat.reduceLT,Nat.reduceLeDiff,Nat.reduceEqDiff,reduceIte,Int.reduceEq,reduceCtorEq,Dy,hq,hm1,hm2,fx,List.length_cons,List.length_nil,Nat.zero_add,l3,hv,hs,l5',hsl,hc]
 exact AP ov2 rfl rfl

abbrev bA:C:=subC Bp.body [1,1,1,1,0,0,1,1,0,0,1,1,0,0]
abbrev bC:C:=subC Bp.body [1,1,1,1,0,0,1,1,0,0,1,1,0,1]
def tdV (x:Nat×List (List Nat)):AV:=.agg [.i .i64 (x.1:Nat),tx x.2]
def tdL (L:List (Nat×List (List Nat))):List (List AV):=L.map fun x=>[tdV x]
theorem XN {O O1 Kp:Nat→Prop} {s0 qr:St} {hc h k1 idy ky c:Nat} {Lt L1:List (Nat×List (List Nat))} {I:(Nat→St→Prop)→Nat→St→Prop} {R:St→Prop} {e:Tr}
    (B:BodyG prog O s0 hc h (.yld ky) (tdL Lt) I R) (hk1:h≤k1) (hO1:∀ j,O1 j→h≤j∧j < k1∧¬ Kp j) (hKp:∀ j,Kp j→j < k1∧(O j∨h≤j)) (hidy:Kp idy) (hyb:qr.box? idy=some (.cells 137 [.yld ky]))
    (h0:s0.nb≤k1) (g3:e.get 3=.p idy 0) (hL:∀ j x,L1[j]? = some x→Lt[c+j]? = some x) :
    BodyG prog O1 s0 hc (k1+1) (.yld k1) (tdL L1) (fun C j q=>I C (c+j) q∧q.box? k1=some (.loop 0 none e [45] bA bC)∧∀ i,Kp i→q.box? i=qr.box? i) (fun q=>R q∧∃ tm ps a b,q.box? k1=some (.loop 2 (some .ret) tm ps a b)) where
 stab:=fun C j q q' hC ⟨h1,h2,h3⟩ f=>⟨B.stab _ _ _ _ hC h1 (f.weaken (by omega) fun j hj ho=>absurd (hO1 j ho).1 (by omega)),by rw [f.box k1 (by omega) fun ho=>absurd (hO1 _ ho).2.1 (by omega)]; exact h2,fun i hi=>by rw [f.box i (by have:=(hKp i hi).1; omega) fun ho=>(hO1 i ho).2.2 hi]; exact h3 i hi⟩
 enter:=fun C j q hC ⟨h1,h2,h3⟩ hq=>⟨B.enter _ _ _ hC h1 (by omega),h2,h3⟩
 leave:=fun C j s q v hC ⟨h1,h2,h3⟩ hs hn ht hw hv=>⟨B.leave _ _ _ _ _ hC h1 (by omega) hn ht hw hv,by rw [EW hw hn (by omega)]; exact h2,fun i hi=>by rw [EW hw hn (by have:=(hKp i hi).1; omega)]; exact h3 i hi⟩
 stabR:=fun q q' ⟨h1,tm,ps,a,b,h2⟩ f=>⟨B.stabR _ _ h1 (f.weaken (by omega) fun j hj ho=>absurd (hO1 j ho).1 (by omega)),tm,ps,a,b,by rw [f.box k1 (by omega) fun ho=>absurd (hO1 _ ho).2.1 (by omega)]; exact h2⟩
 leaveR:=fun s q v ⟨h1,tm,ps,a,b,h2⟩ hs hn ht hw hv=>⟨B.leaveR _ _ _ h1 (by omega) hn ht hw hv,tm,ps,a,b,by rw [EW hw hn (by omega)]; exact h2⟩
 step:=by
  intro C j hj q hC ⟨hI,hk,hkp⟩ hov hw hh
  have hj':j < L1.length:=by simpa [tdL] using hj
  obtain ⟨x,hx⟩:∃ x,L1[j]? = some x:=⟨_,List.getElem?_eq_getElem hj'⟩
  have hLj:(tdL L1)[j]=[tdV x]:=by
   rw [List.getElem?_eq_getElem hj'] at hx
   simp only [tdL,List.getElem_map]
   rw [Option.some.inj hx]
  have hLt:=hL j x hx
  have hjt:c+j < (tdL Lt).length:=by
   rw [List.getElem?_eq_some_iff] at hLt
   simpa [tdL] using hLt.1
  have hLtj:(tdL Lt)[c+j]=[tdV x]:=by
   rw [List.getElem?_eq_some_iff] at hLt
   simp only [tdL,List.getElem_map]
   rw [hLt.2]
  rw [hLj]
  have hv2:(tdV x).cells.length=2∧ones (tdV x).cells=true:=⟨rfl,rfl⟩
  have wn:Wf (q.new (.cells 118 [.i .i64 0,.nsl])):=hw.new _
  obtain ⟨q0,hq0⟩:∃ q0,(q.new (.cells 118 [.i .i64 0,.nsl])).setBox q.nb (.cells 118 (tdV x).cells)=q0:=⟨_,rfl⟩
  obtain ⟨q1,hq1⟩:∃ q1,q0.setBox k1 (.loop 1 none e [45] bA bC)=q1:=⟨_,rfl⟩
  have w0:Wf q0:=by rw [← hq0]; exact wn.setBox _ _
  have w1:Wf q1:=by rw [← hq1]; exact w0.setBox _ _
  have nb0:q0.nb=q.nb+1∧q0.nt=q.nt:=by rw [← hq0]; exact ⟨rfl,rfl⟩
  have nb1:q1.nb=q.nb+1∧q1.nt=q.nt:=by rw [← hq1]; exact nb0
  have bx0:∀ i,i < q.nb→q0.box? i=q.box? i:=fun i hi=>by
   rw [← hq0,setBox_box? wn.b (by simp [St.new]),if_neg (by omega),CK hi]
  have bx0n:q0.box? q.nb=some (.cells 118 (tdV x).cells):=by
   rw [← hq0,setBox_box? wn.b (by simp [St.new]),if_pos rfl]
  have bx1:∀ i,q1.box? i=if i=k1 then some (.loop 1 none e [45] bA bC) else q0.box? i:=fun i=>by rw [← hq1]; exact setBox_box? w0.b (by omega) i
  have fr1:Fq O h q q1:=by
   have f1:Fq O h q (q.new (.cells 118 [.i .i64 0,.nsl])):=Fq.new (by omega) _
   have f2:Fq O h (q.new (.cells 118 [.i .i64 0,.nsl])) q0:=by rw [← hq0]; exact Fq.setBox wn (by simp [St.new]; omega) (.inl (by omega)) (by simp [St.new]) _
   have f3:Fq O h q0 q1:=by rw [← hq1]; exact Fq.setBox w0 (by omega) (.inl hk1) (by omega) _
   exact (f1.trans f2).trans f3
  have ov0:Over s0 q0:=by rw [← hq0]; exact Over.setBox (hov.new _) (by omega) (by simp [St.new]) _
  have ov1:Over s0 q1:=by rw [← hq1]; exact Over.setBox ov0 h0 (by omega) _
  have b1k:=bx1 k1
  rw [if_pos rfl] at b1k
  have hkp1:∀ i,Kp i→q1.box? i=qr.box? i:=fun i hi=>by
   have:=(hKp i hi).1
   rw [bx1,if_neg (by omega),bx0 i (by omega)]
   exact hkp i hi
  have ldy:=D3 (s:=q1) (v:=.yld ky) (off:=0) (by rw [hkp1 idy hidy]; exact hyb) rfl
  have b1n:q1.box? q.nb=some (.cells 118 (tdV x).cells):=by rw [bx1,if_neg (by omega)]; exact bx0n
  have ldx:ldA q1 true 2 (.p q.nb 0)=some (tdV x):=by
   simp only [ldA,St.cells?,b1n]; rfl
  have hO1k:¬ O1 k1:=fun ho=>absurd (hO1 _ ho).2.1 (by omega)
  have st0:stA (q.new (.cells 118 [.i .i64 0,.nsl])) 2 (.p q.nb 0) (tdV x)=some q0:=by
   have hb:(q.new (.cells 118 [.i .i64 0,.nsl])).box? q.nb=some (.cells 118 [.i .i64 0,.nsl]):=BG q _
   have ho:over [.i .i64 0,.nsl] 0 (tdV x).cells=some (tdV x).cells:=rfl
   have hrf:(tdV x).refs=false:=by simp [tdV,tx,AV.refs,AV.refs.go,Gh]
   simp only [stA,hb,hv2,and_self,if_true,ho,Am.esc,hrf]
   rw [← hq0]
   rfl
  have lr:ldR q1 (some (tdV x))=some (tdV x,q1):=rfl
  have pv:∀ u:St,Am.pub u (tdV x)=some (tdV x,u):=fun _=>rfl
  refine K4 ?_
  refine PL (t:=e.set 10 45 (tdV x)) hk rfl ?_
  simp only [bA,Bp,subC,go_sem,AD,AA,AC,AB,KB_n,KB_x,Nat.reduceBEq,Nat.reduceAdd,Nat.reduceLT,Nat.reduceLeDiff,Nat.reduceEqDiff,reduceIte,Int.reduceEq,reduceCtorEq,st0]
  refine ⟨_,_,_,_,by rw [bx0 k1 (by omega)]; exact hk,?_⟩
  rw [hq1]
  obtain ⟨bb,q2,hstep,ht2,hf2,hov2,hw2,hnb2,hnt2,hkeep2⟩:=B.step C (c+j) hjt q1 hC (B.stab _ _ _ _ hC hI fr1) ov1 w1 (by omega)
  rw [hLtj] at hstep
  have b2k:q2.box? k1=q1.box? k1:=hkeep2 k1 (.inr hk1) (by omega)
  rw [b1k] at b2k
  have hkp2:∀ i,Kp i→q2.box? i=qr.box? i:=fun i hi=>by
   rw [hkeep2 i (hKp i hi).2 (by have:=(hKp i hi).1; omega)]
   exact hkp1 i hi
  have bx3:∀ B i,(q2.setBox k1 B).box? i=if i=k1 then some B else q2.box? i:=fun B i=>setBox_box? hw2.b (by omega) i
  have frs2:∀ B,Fq O h q2 (q2.setBox k1 B):=fun B=>Fq.setBox hw2 (by omega) (.inl hk1) (by omega) _
  have keep2:∀ i,(O1 i∨k1+1≤i)→i < q.nb→q2.box? i=q.box? i:=fun i hi hlt=>by
   rw [hkeep2 i (.inr (by rcases hi with hi | hi; exact (hO1 i hi).1; omega)) (by omega),bx1,if_neg,bx0 i hlt]
   rintro rfl
   rcases hi with hi | hi
   · exact hO1k hi
   · omega
  cases bb with
  | true =>
    simp only [bC,Bp,subC,go_sem,AD,AA,AC,AB,KB_n,KB_x,Nat.reduceBEq,Nat.reduceAdd,Nat.reduceLT,Nat.reduceLeDiff,Nat.reduceEqDiff,reduceIte,Int.reduceEq,reduceCtorEq,g3,ldy,ldx,lr,pv,hstep]
    refine Ib b2k (by omega) hw2 hov2 h0 (by omega) (by omega) hO1k keep2 (fun _=>⟨?_,by rw [bx3,if_pos rfl]; rfl,fun i hi=>by rw [bx3,if_neg (by have:=(hKp i hi).1; omega)]; exact hkp2 i hi⟩) (fun hh=>by simp at hh) (fun i hh=>by simp at hh)
    exact B.stab _ _ _ _ hC (ht2 rfl) (frs2 _)
  | false =>
    simp only [bC,Bp,subC,go_sem,AD,AA,AC,AB,KB_n,KB_x,Nat.reduceBEq,Nat.reduceAdd,Nat.reduceLT,Nat.reduceLeDiff,Nat.reduceEqDiff,reduceIte,Int.reduceEq,reduceCtorEq,g3,ldy,ldx,lr,pv,hstep]
    exact Ib b2k (by omega) hw2 hov2 h0 (by omega) (by omega) hO1k keep2 (fun hh=>by simp at hh) (fun _=>⟨B.stabR _ _ (hf2 rfl) (frs2 _),_,_,_,_,by rw [bx3,if_pos rfl]⟩) (fun i hh=>by simp at hh)

theorem ZN {l:List FT} {x:Nat×List (List Nat)} {a0 a1:AV} (ha:Ca 6 a0 (l.map FT.av)) (hp:Ca 1 a1 (x.2.map .s)) (q:St) :
    (lim prog).call Fd [a0,.agg [.i .i64 (x.1:Nat),a1]] q=some (.fn B4 [.p (q.nb+1) 0,.p q.nb 0],{ (q.new (.cells 22 [fx l])).new (.cells 118 (tdV x).cells) with lo:=min q.lo q.nb }):=by
 obtain ⟨r,s',h,rfl,rfl⟩:=fn_G (f:=Fd) (args:=[a0,.agg [.i .i64 (x.1:Nat),a1]]) (s:=q) (Post:=fun r s'=>r=.fn B4 [.p (q.nb+1) 0,.p q.nb 0]∧s'={ (q.new (.cells 22 [fx l])).new (.cells 118 (tdV x).cells) with lo:=min q.lo q.nb }) R8 rfl rfl (by
  have hz0:wkZ Fe.cin [a0,.agg [.i .i64 (x.1:Nat),a1]]=[fx l,.agg [.i .i64 (x.1:Nat),tx x.2]]:=by
   simp only [Fe,wkZ,LF ha,wk,hp.wk (QH _)]
  rw [hz0]
  have c1:(fx l).cells=[fx l]:=rfl
  have h1:q.enter.nb=q.nb:=rfl
  simp only [Fe,go_sem,AD,AA,AC,AB,KB_n,KB_x,Nat.reduceBEq,Nat.reduceAdd,Nat.reduceLT,Nat.reduceLeDiff,Nat.reduceEqDiff,reduceIte,Int.reduceEq,reduceCtorEq,c1,h1,List.length_cons,List.length_nil]
  exact ⟨_,_,rfl,rfl,I8 rfl⟩)
 exact h
theorem Og:∀ L:List (List Nat),Fo (L.map AV.s) (L.map AV.s)=true
 | []=>rfl
 | z::L=>by simp [List.map_cons,Fo,beqA,Og L,Qh]
theorem XO:∀ l:List FT,Fo (l.map FT.av) (l.map FT.av)=true
 | []=>rfl
 | f::l=>by
   have h:Fo f.cells f.cells=true:=by
    simp [FT.cells,tx,zx,Fo,beqA,Ko,Og]
   simp only [List.map_cons,Fo,FT.av,beqA,h,Bool.true_and]
   exact XO l
theorem ZO (l:List FT):still (fx l)=true:=by
 simp [still,fx,beqA,XO]
theorem Th {l:List FT} {x:Nat×List (List Nat)} {a0 a1:AV} (ha:Ca 6 a0 (l.map FT.av)) (hp:Ca 1 a1 (x.2.map .s)) {q:St} (hw:Wf q) :
    ∃ q',(lim prog).call Fd [a0,.agg [.i .i64 (x.1:Nat),a1]] q=some (.fn B4 [.p (q.nb+1) 0,.p q.nb 0],q')∧Wf q'∧q'.nb=q.nb+2∧q'.nt=q.nt∧q'.box? q.nb=some (.cells 22 [fx l])∧q'.box? (q.nb+1)=some (.cells 118 (tdV x).cells)∧(∀ i,i < q.nb→q'.box? i=q.box? i)∧(∀ s0:St,Over s0 q→Over s0 q')∧∀ (O:Nat→Prop) (h:Nat),h≤q.nb→Fq O h q q':=by
 have w1:=hw.new (.cells 22 [fx l])
 refine ⟨_,ZN ha hp q,(w1.new _).lo _,rfl,rfl,?_,?_,fun i hi=>?_,fun s0 h=>?_,fun O h hq=>?_⟩
 · have h1:((q.new (.cells 22 [fx l])).new (.cells 118 (tdV x).cells)).box? q.nb=(q.new (.cells 22 [fx l])).box? q.nb:=CK (by simp [St.new])
   exact h1.trans (BG q _)
 · exact BG (q.new (.cells 22 [fx l])) _
 · have h1:((q.new (.cells 22 [fx l])).new (.cells 118 (tdV x).cells)).box? i=(q.new (.cells 22 [fx l])).box? i:=CK (by simp [St.new]; omega)
   exact h1.trans (CK hi)
 · refine ((h.new _).new _).setLo ?_
   have:=h.lo
   have:=h.nb
   omega
 · refine ((Fq.new hq _).trans (Fq.new (by simp [St.new]; omega) _)).trans (Fq.lo' (by simp [St.new]; omega) ?_)
   exact Nat.min_le_left _ _
def LM (l:List FT) (d:Nat) (f:FT) (p:List (List Nat)):List (List (Nat×List (List Nat))):=(f.kids.zip f.names).map fun x=>belowF l d x.1.toNat (p++[x.2])
theorem XP {l:List FT} {d n:Nat} {f:FT} (hf:l[n]? = some f) (p:List (List Nat)):belowF l (d+1) n p=(n,p)::(LM l d f p).flatten:=by
 rw [belowF,hf]; rfl
theorem flat_take {α:Type} {L:List (List α)} {i:Nat} {x:List α} (h:L[i]? = some x):(L.take (i+1)).flatten.length=(L.take i).flatten.length+x.length:=by
 rw [List.getElem?_eq_some_iff] at h
 obtain ⟨hi,rfl⟩:=h
 rw [List.take_succ_eq_append_getElem hi,List.flatten_append,List.length_append]
 simp
theorem XQ {α:Type} {L:List (List α)} {i j:Nat} {x:List α} {a:α} (h:L[i]? = some x) (hj:x[j]? = some a):L.flatten[(L.take i).flatten.length+j]? = some a:=by
 rw [List.getElem?_eq_some_iff] at h
 obtain ⟨hi,rfl⟩:=h
 have:L.flatten=(L.take i).flatten++(L[i]++(L.drop (i+1)).flatten):=by
  conv=>lhs; rw [← List.take_append_drop i L,List.drop_eq_getElem_cons hi,List.flatten_append,List.flatten_cons]
 rw [this,List.getElem?_append_right (by omega),Nat.add_sub_cancel_left,List.getElem?_append_left]
 · exact hj
 · rw [List.getElem?_eq_some_iff] at hj; exact hj.1
theorem RJ {l:List FT} (hm:mayP l=true) (ho:∀ f∈l,f.Ok) (hl:l.length < 2^34):∀ (d n:Nat) (p:List (List Nat)),n < l.length→p.length+d < 2^36→∀ {s:St} {xb lb:Nat},s.box? xb=some (.cells 118 (tdV (n,p)).cells)→s.box? lb=some (.cells 22 [fx l])→xb < s.nb→lb < s.nb →
    l.length - n≤d→IterG prog (fun j=>j=xb∨j=lb) B4 [.p xb 0,.p lb 0] (tdL (belowF l d n p)) s
 | 0,n,p,hn,_,s,xb,lb,hx,hlb,lx,ll,hd=>by omega
 | d + 1, n, p,hn,hpd,s,xb,lb,hx,hlb,lx,ll,hd=>by
   intro s0 hc h ky I R C hC hch B hI hov hw hh h0
   obtain ⟨f,hf⟩:∃ f,l[n]? = some f:=⟨_,List.getElem?_eq_getElem hn⟩
   have hfm:=List.mem_of_getElem? hf
   have hfo:=ho f hfm
   have hone:=Pd hm hfm
   have hnk:=Fi hone
   have hbel:=XP (d:=d) hf p
   rw [hbel] at B ⊢
   obtain ⟨r,s',hcall,rfl,hres⟩:=fn_G (f:=B4) (args:=[.yld ky,.p xb 0,.p lb 0]) (s:=s) (Post:=fun r s'=>r=.tup []∧Over s0 s'∧Wf s'∧s.nb≤s'.nb∧s.nt≤s'.nt∧(I C (tdL ((n,p)::(LM l d f p).flatten)).length s'∨R s')) PW rfl rfl (by
    have hend:∀ q,Over s0 q→Wf q→s.nb≤q.nb→s.nt≤q.nt→(I (Cin hc C s) (tdL ((n,p)::(LM l d f p).flatten)).length q∨R q)→KH s [] (fun r s'=>r=.tup []∧Over s0 s'∧Wf s'∧s.nb≤s'.nb∧s.nt≤s'.nt∧(I C (tdL ((n,p)::(LM l d f p).flatten)).length s'∨R s')) (some ([],q)):=fun q k1 k2 k3 k4 k5=>by
     refine ⟨_,_,rfl,rfl,UB hov k1 k3 k4 _,YF k2 k3 k4 _,YD k3 _,YE k4 _,?_⟩
     exact k5.imp (fun k=>B.leave _ _ _ _ _ hC k hh k3 k4 k2 rfl) fun k=>B.leaveR _ _ _ k hh k3 k4 k2 rfl
    have hCi:TokSafe hc (Cin hc C s):=Cin.safe s
    have hIi:=B.enter _ _ _ hC hI hh
    have hz0:wkZ Bp.cin [.yld ky,.p xb 0,.p lb 0]=[.yld ky,.p xb 0,.p lb 0]:=by simp [Bp,wkZ,wk]
    have c1:(AV.yld ky).cells=[.yld ky]:=rfl
    have e0:s.enter.nb=s.nb:=rfl
    rw [hz0]
    obtain ⟨q1,hq1⟩:∃ q1,s.enter.new (.cells 137 [.yld ky])=q1:=⟨_,rfl⟩
    have w1:Wf q1:=by rw [← hq1]; exact hw.enter.new _
    have nb1:q1.nb=s.nb+1:=by rw [← hq1]; rfl
    have nt1:q1.nt=s.nt:=by rw [← hq1]; rfl
    have ov1:Over s0 q1:=by rw [← hq1]; exact hov.toEnter.new _
    have bx1:∀ i,i < s.nb→q1.box? i=s.box? i:=fun i hi=>by rw [← hq1,CK (by exact hi)]; rfl
    have by1:q1.box? s.nb=some (.cells 137 [.yld ky]):=by rw [← hq1]; exact BG s.enter _
    have I1:=B.stab _ _ _ q1 hCi hIi (by rw [← hq1]; exact Fq.new (show h≤s.enter.nb from hh) _)
    have ldy1:=D3 (s:=q1) (v:=.yld ky) (off:=0) by1 rfl
    have ldx1:ldA q1 true 2 (.p xb 0)=some (tdV (n,p)):=by
     simp only [ldA,St.cells?,bx1 xb lx,hx]; rfl
    have lr1:∀ u,ldR u (some (tdV (n,p)))=some (tdV (n,p),u):=fun _=>rfl
    have pv:∀ u:St,Am.pub u (tdV (n,p))=some (tdV (n,p),u):=fun _=>rfl
    obtain ⟨bb,q2,hstep,ht2,hf2,ov2,w2,nb2,nt2,keep2⟩:=B.step (Cin hc C s) 0 (by simp [tdL]) q1 hCi I1 ov1 w1 (by omega)
    have hL0:(tdL ((n,p)::(LM l d f p).flatten))[0]'(by simp [tdL])=[tdV (n,p)]:=rfl
    rw [hL0] at hstep
    have by2:q2.box? s.nb=some (.cells 137 [.yld ky]):=by rw [keep2 s.nb (.inr hh) (by omega)]; exact by1
    have bxx2:q2.box? xb=some (.cells 118 (tdV (n,p)).cells):=by rw [keep2 xb (.inl (.inl rfl)) (by omega),bx1 xb lx]; exact hx
    have bxl2:q2.box? lb=some (.cells 22 [fx l]):=by rw [keep2 lb (.inl (.inr rfl)) (by omega),bx1 lb ll]; exact hlb
    cases bb with
    | false =>
      simp only [Bp,go_sem,AD,AA,AC,AB,KB_n,KB_x,Nat.reduceBEq,Nat.reduceAdd,Nat.reduceLT,Nat.reduceLeDiff,Nat.reduceEqDiff,reduceIte,Int.reduceEq,reduceCtorEq,c1,e0,hq1,List.length_cons,List.length_nil,ldy1,ldx1,lr1,pv,hstep]
      exact hend q2 ov2 w2 (by omega) (by omega) (.inr (hf2 rfl))
    | true =>
      have I2:=ht2 rfl
      have ldl2:=D3 (s:=q2) (v:=fx l) (off:=0) bxl2 rfl
      have ldn2:=D3 (s:=q2) (v:=.i .i64 (n:Nat)) (off:=0) bxx2 rfl
      have hg:=JH hf
      have ldf:=E9 f
      have pvf:=BH f
      obtain ⟨q3,d3,w3,nb3,nt3,bf3,bx3,ov3,fq3⟩:=Zf (q:=q2) w2 (T:=48) (m:=6) (z:=[.b false,.i .u8 0,.nsl,.nsl,.i .i64 0,.i .i64 0]) (v:=.agg f.cells) rfl ⟨rfl,rfl⟩ (by simp [FT.cells,tx,zx,AV.refs,AV.refs.go,Gh,L8])
      have ov3:=ov3 s0 ov2
      have ldk3:=D3 (s:=q3) (v:=zx f.kids) (off:=3) bf3 rfl
      simp only [Bp,go_sem,AD,AA,AC,AB,KB_n,KB_x,Nat.reduceBEq,Nat.reduceAdd,Nat.reduceLT,Nat.reduceLeDiff,Nat.reduceEqDiff,reduceIte,Int.reduceEq,reduceCtorEq,c1,e0,hq1,List.length_cons,List.length_nil,ldy1,ldx1,lr1,pv,hstep,ldl2,ldn2,AH,fx,hg,ldf,pvf,Nat.zero_add,Cd,d3,ldk3,zx,List.length_map]
      refine Br (fun x e q=>∃ i:Nat,i+x=f.kids.length∧I (Cin hc C s) (1+(((LM l d f p).take i).flatten).length) q∧Over s0 q∧Wf q∧q3.nb≤q.nb∧s.nt≤q.nt∧q.box? s.nb=some (.cells 137 [.yld ky])∧q.box? q2.nb=some (.cells 48 f.cells)∧q.box? xb=some (.cells 118 (tdV (n,p)).cells)∧q.box? lb=some (.cells 22 [fx l]) ∧
       e.get 1=.p xb 0∧e.get 2=.p lb 0∧e.get 3=.p s.nb 0∧e.get 4=.p q2.nb 0∧e.get 18=zx f.kids∧e.get 19=.i .i64 (f.kids.length:Nat)∧e.get 20=.i .i64 (i:Nat)) ?_ f.kids.length _ _ ?_
      · rintro x e q ⟨i,hix,hIq,ovq,wq,nbq,ntq,bq1,bq2,bq3,bq4,g1,g2,g3,g4,g18,g19,g20⟩
        by_cases hi:i < f.kids.length
        · have h1:((i:Int) < (f.kids.length:Int))=True:=eq_true (by omega)
          obtain ⟨k,hk⟩:∃ k,f.kids[i]? = some k:=⟨_,List.getElem?_eq_getElem hi⟩
          have hkid:=(mayD hm).kid n f hf k (List.mem_of_getElem? hk)
          obtain ⟨kn,rfl⟩:∃ kn:Nat,k=(kn:Int):=⟨k.toNat,by omega⟩
          obtain ⟨nm,hnm⟩:∃ nm,f.names[i]? = some nm:=⟨_,List.getElem?_eq_getElem (by omega)⟩
          have hk2:=M7 hk
          have ldk:∀ u:St,ldA u false 1 (.ep [.i .i64 (kn:Int)] 0 .shut)=some (.i .i64 (kn:Int)):=fun _=>rfl
          simp only [go_sem,AD,AA,AC,AB,KB_n,KB_x,Nat.reduceBEq,Nat.reduceAdd,Nat.reduceLT,Nat.reduceLeDiff,Nat.reduceEqDiff,reduceIte,Int.reduceEq,reduceCtorEq,g1,g2,g3,g4,g18,g19,g20,zx,h1,AH,hk2,ldk,Ee]
          have ll0:=D3 (s:=q) (v:=fx l) (off:=0) bq4 rfl
          have lp0:=D3 (s:=q) (v:=tx p) (off:=1) bq3 rfl
          have ln0:=D3 (s:=q) (v:=tx f.names) (off:=2) bq2 rfl
          have hnm2:(f.names.map AV.s)[i]? = some (.s nm):=by rw [List.getElem?_map,hnm]; rfl
          have ldn:∀ u:St,ldA u false 1 (.ep [.s nm] 0 .shut)=some (.s nm):=fun _=>rfl
          have hsl:Bk q false 1 (.ws false 1 (p.map .s)) none (some (.i .i64 (p.length:Nat))) (some (.i .i64 (p.length:Nat)))=some (.ws true 1 (p.map .s),q):=by
           have ht:List.take p.length (p.map AV.s)=p.map .s:=List.take_of_length_le (by simp)
           unfold Bk Cb
           simp [Cv,ht]
          obtain ⟨q4,d4,w4,nb4,nt4,bx4,ov4,fq4⟩:=aW (q:=q) (es:=1) (T:=9) (a:=.ws true 1 (p.map .s)) (xs:=p.map .s) (y:=.sl 1 [.s nm] .full) (ys:=[.s nm]) wq .ws (by simp [elems,St.ok]) (by simp) (by simp; omega)
          have ov4:=ov4 s0 ovq
          obtain ⟨q5,d5,w5,nb5,nt5,bl5,bt5,bx5,ov5,fq5⟩:=Th (l:=l) (x:=(kn,p++[nm])) (a0:=fx l) (a1:=.sl 1 (p.map .s++[.s nm]) .shut) .ws (.inr (.inr (.inr (.inl (by simp))))) w4
          have ov5:=ov5 s0 ov4
          simp only [fx] at d5
          have hal:Ah 1 [AV.s nm]=true:=rfl
          have hsh:∀ u:St,Rf false u (.fn B4 [.p (q4.nb+1) 0,.p q4.nb 0])=some (.fn B4 [.p (q4.nb+1) 0,.p q4.nb 0],u):=fun _=>rfl
          have ll4:=D3 (s:=q4) (v:=fx l) (off:=0) (by rw [bx4]; exact bq4) rfl
          refine WH rfl ?_
          simp only [go_sem,AD,AA,AC,AB,KB_n,KB_x,Nat.reduceBEq,Nat.reduceAdd,Nat.reduceLT,Nat.reduceLeDiff,Nat.reduceEqDiff,reduceIte,Int.reduceEq,reduceCtorEq,g1,g2,g3,g4,ll0,lp0,ln0,tx,fx,AH,hnm2,ldn,List.length_map,hsl,hal,d4,d5,hsh]
          refine bh rfl (by simp only [go_sem,AD,AA,AC,AB,KB_n,KB_x,Nat.reduceBEq,Nat.reduceAdd,Nat.reduceLT,Nat.reduceLeDiff,Nat.reduceEqDiff,reduceIte,Int.reduceEq,reduceCtorEq,g2]) (ZO l) ⟨⟨_,rfl,ll0⟩,⟨_,rfl,ll0⟩,⟨_,rfl,ll0⟩,⟨_,rfl,ll0⟩,⟨_,rfl,ll0⟩,⟨_,rfl,ll0⟩,⟨_,rfl,ll0⟩,⟨_,rfl,ll0⟩,⟨_,rfl,ll0⟩,⟨_,rfl,ll0⟩,⟨_,rfl,ll0⟩,⟨_,rfl,ll0⟩,⟨_,rfl,ll0⟩,⟨_,rfl,ll0⟩,⟨_,rfl,ll0⟩,⟨_,rfl,ll0⟩,⟨_,rfl,ll0⟩,⟨_,rfl,ll0⟩,⟨_,rfl,ll0⟩,⟨_,rfl,ll4⟩,trivial⟩ (WJ ?_)
          have Isub:(LM l d f p)[i]? = some (belowF l d kn (p++[nm])):=by
           unfold LM
           rw [List.getElem?_map]
           have:(f.kids.zip f.names)[i]? = some ((kn:Int),nm):=by rw [List.getElem?_zip_eq_some]; exact ⟨hk,hnm⟩
           rw [this]; simp
          have by5:q5.box? s.nb=some (.cells 137 [.yld ky]):=by rw [bx5 _ (by omega),bx4]; exact bq1
          have bf5:q5.box? q2.nb=some (.cells 48 f.cells):=by rw [bx5 _ (by omega),bx4]; exact bq2
          have bxx5:q5.box? xb=some (.cells 118 (tdV (n,p)).cells):=by rw [bx5 _ (by omega),bx4]; exact bq3
          have bxl5:q5.box? lb=some (.cells 22 [fx l]):=by rw [bx5 _ (by omega),bx4]; exact bq4
          have I5:=B.stab _ _ _ _ hCi hIq ((fq4 _ _ (by omega)).trans (fq5 _ _ (by omega)))
          simp only [go_sem,AD,AA,AC,AB,KB_n,KB_x,Nat.reduceBEq,Nat.reduceAdd,Nat.reduceLT,Nat.reduceLeDiff,Nat.reduceEqDiff,reduceIte,Int.reduceEq,reduceCtorEq]
          refine aX (g:=B4) (caps:=[.p (q4.nb+1) 0,.p q4.nb 0]) (by simp only [go_sem,AD,AA,AC,AB,KB_n,KB_x,Nat.reduceBEq,Nat.reduceAdd,Nat.reduceLT,Nat.reduceLeDiff,Nat.reduceEqDiff,reduceIte,Int.reduceEq,reduceCtorEq]) fun e' he'=>?_
          have z1:e'.get 1=.p xb 0:=by rw [he']; simp only [go_sem,AD,AA,AC,AB,KB_n,KB_x,Nat.reduceBEq,Nat.reduceAdd,Nat.reduceLT,Nat.reduceLeDiff,Nat.reduceEqDiff,reduceIte,Int.reduceEq,reduceCtorEq,g1]
          have z2:e'.get 2=.p lb 0:=by rw [he']; simp only [go_sem,AD,AA,AC,AB,KB_n,KB_x,Nat.reduceBEq,Nat.reduceAdd,Nat.reduceLT,Nat.reduceLeDiff,Nat.reduceEqDiff,reduceIte,Int.reduceEq,reduceCtorEq,g2]
          have z3:e'.get 3=.p s.nb 0:=by rw [he']; simp only [go_sem,AD,AA,AC,AB,KB_n,KB_x,Nat.reduceBEq,Nat.reduceAdd,Nat.reduceLT,Nat.reduceLeDiff,Nat.reduceEqDiff,reduceIte,Int.reduceEq,reduceCtorEq,g3]
          have z4:e'.get 4=.p q2.nb 0:=by rw [he']; simp only [go_sem,AD,AA,AC,AB,KB_n,KB_x,Nat.reduceBEq,Nat.reduceAdd,Nat.reduceLT,Nat.reduceLeDiff,Nat.reduceEqDiff,reduceIte,Int.reduceEq,reduceCtorEq,g4]
          have z18:e'.get 18=zx f.kids:=by rw [he']; simp only [go_sem,AD,AA,AC,AB,KB_n,KB_x,Nat.reduceBEq,Nat.reduceAdd,Nat.reduceLT,Nat.reduceLeDiff,Nat.reduceEqDiff,reduceIte,Int.reduceEq,reduceCtorEq,g18]
          have z19:e'.get 19=.i .i64 (f.kids.length:Nat):=by rw [he']; simp only [go_sem,AD,AA,AC,AB,KB_n,KB_x,Nat.reduceBEq,Nat.reduceAdd,Nat.reduceLT,Nat.reduceLeDiff,Nat.reduceEqDiff,reduceIte,Int.reduceEq,reduceCtorEq,g19]
          have z20:e'.get 20=.i .i64 (i:Nat):=by rw [he']; simp only [go_sem,AD,AA,AC,AB,KB_n,KB_x,Nat.reduceBEq,Nat.reduceAdd,Nat.reduceLT,Nat.reduceLeDiff,Nat.reduceEqDiff,reduceIte,Int.reduceEq,reduceCtorEq,g20]
          clear he'
          obtain ⟨q6,hq6⟩:∃ q6,q5.new (.loop 0 none e' [45] bA bC)=q6:=⟨_,rfl⟩
          have w6:Wf q6:=by rw [← hq6]; exact w5.new _
          have nb6:q6.nb=q5.nb+1:=by rw [← hq6]; rfl
          have nt6:q6.nt=q5.nt:=by rw [← hq6]; rfl
          have ov6:Over s0 q6:=by rw [← hq6]; exact ov5.new _
          have bx6:∀ i,i < q5.nb→q6.box? i=q5.box? i:=fun i hi=>by rw [← hq6]; exact CK hi
          have bk6:q6.box? q5.nb=some (.loop 0 none e' [45] bA bC):=by rw [← hq6]; exact BG q5 _
          have fq6:Fq (fun j=>j=xb∨j=lb) h q5 q6:=by rw [← hq6]; exact Fq.new (by omega) _
          have B6:=XN (O1:=fun j=>j=q4.nb+1∨j=q4.nb) (Kp:=fun j=>j=s.nb∨j=q2.nb∨j=xb∨j=lb) (qr:=q5) (k1:=q5.nb) (idy:=s.nb) (c:=1+(((LM l d f p).take i).flatten).length) (L1:=belowF l d kn (p++[nm])) (e:=e') B (by omega)
           (fun j hj=>⟨by omega,by omega,by omega⟩) (fun j hj=>⟨by omega,by
            rcases hj with rfl | rfl | rfl | rfl
            · exact .inr hh
            · exact .inr (by omega)
            · exact .inl (.inl rfl)
            · exact .inl (.inr rfl)⟩) (.inl rfl) by5 (by omega) z3 (fun j x hx=>by
            rw [Nat.add_assoc,Nat.add_comm 1,List.getElem?_cons_succ]
            exact XQ Isub hx)
          obtain ⟨q7,d7,ov7,w7,nb7,nt7,hres7⟩:=RJ hm ho hl d kn (p++[nm]) (by omega) (by simp; omega) (s:=q6) (xb:=q4.nb+1) (lb:=q4.nb) (by rw [bx6 _ (by omega)]; exact bt5) (by rw [bx6 _ (by omega)]; exact bl5) (by omega) (by omega) (by omega)
           s0 hc (q5.nb+1) q5.nb _ _ (Cin hc C s) hCi (by omega) B6 ⟨B.stab _ _ _ _ hCi I5 fq6,bk6,fun i hi=>by
            rw [bx6 i (by rcases hi with rfl | rfl | rfl | rfl<;>omega)]⟩ ov6 w6 (by omega) (by omega)
          have bx7:∀ B i,(q7.setBox q5.nb B).box? i=if i=q5.nb then some B else q7.box? i:=fun B i=>setBox_box? w7.b (by omega) i
          have fq7:∀ B,Fq (fun j=>j=xb∨j=lb) h q7 (q7.setBox q5.nb B):=fun B=>Fq.setBox w7 (by omega) (.inl (by omega)) (by omega) _
          have ov8:∀ B,Over s0 (q7.setBox q5.nb B):=fun B=>Over.setBox ov7 (by omega) (by omega) _
          rw [← hq6] at d7
          rcases hres7 with ⟨hI7,hk7,hkp7⟩ | ⟨hR7,tm,ps,a,b,hk7⟩
          · refine ⟨_,q7,d7,_,_,_,_,_,_,hk7,by decide,?_⟩
            have hw1:=Aj (show i+1 < 2^63 by have:=hfo.klen; omega)
            simp only [go_sem,AD,AA,AC,AB,KB_n,KB_x,Nat.reduceBEq,Nat.reduceAdd,Nat.reduceLT,Nat.reduceLeDiff,Nat.reduceEqDiff,reduceIte,Int.reduceEq,reduceCtorEq,z20,hw1]
            refine ⟨x - 1,by omega,i+1,by omega,?_,ov8 _,w7.setBox _ _,by show q3.nb≤q7.nb; omega,by show s.nt≤q7.nt; omega,by rw [bx7,if_neg (by omega),hkp7 _ (.inl rfl)]; exact by5,by rw [bx7,if_neg (by omega),hkp7 _ (.inr (.inl rfl))]; exact bf5,by rw [bx7,if_neg (by omega),hkp7 _ (.inr (.inr (.inl rfl)))]; exact bxx5,by rw [bx7,if_neg (by omega),hkp7 _ (.inr (.inr (.inr rfl)))]; exact bxl5,z1,z2,z3,z4,z18,z19,rfl⟩
            have:1+((LM l d f p).take (i+1)).flatten.length=1+((LM l d f p).take i).flatten.length+(tdL (belowF l d kn (p++[nm]))).length:=by
             rw [flat_take Isub]; simp [tdL,Nat.add_assoc]
            rw [this]
            exact B.stab _ _ _ _ hCi hI7 (fq7 _)
          · refine ⟨_,q7,d7,_,_,_,_,_,_,hk7,by decide,?_⟩
            simp only [go_sem,AD,AA,AC,AB,KB_n,KB_x,Nat.reduceBEq,Nat.reduceAdd,Nat.reduceLT,Nat.reduceLeDiff,Nat.reduceEqDiff,reduceIte,Int.reduceEq,reduceCtorEq]
            exact hend _ (ov8 _) (w7.setBox _ _) (by show s.nb≤q7.nb; omega) (by show s.nt≤q7.nt; omega) (.inr (B.stabR _ _ hR7 (fq7 _)))
        · have h1:((i:Int) < (f.kids.length:Int))=False:=eq_false (by omega)
          simp only [go_sem,AD,AA,AC,AB,KB_n,KB_x,Nat.reduceBEq,Nat.reduceAdd,Nat.reduceLT,Nat.reduceLeDiff,Nat.reduceEqDiff,reduceIte,Int.reduceEq,reduceCtorEq,g19,g20,h1]
          refine hend q ovq wq (by omega) (by omega) (.inl ?_)
          have:(LM l d f p).length≤i:=by simp [LM]; omega
          rw [List.take_of_length_le this] at hIq
          rw [Nat.add_comm] at hIq
          simpa only [tdL,List.length_map,List.length_cons] using hIq
      · simp only [go_sem,AD,AA,AC,AB,KB_n,KB_x,Nat.reduceBEq,Nat.reduceAdd,Nat.reduceLT,Nat.reduceLeDiff,Nat.reduceEqDiff,reduceIte,Int.reduceEq,reduceCtorEq]
        refine ⟨0,by omega,?_,ov3,w3,Nat.le_refl _,by omega,by rw [bx3 _ (by omega)]; exact by2,bf3,by rw [bx3 _ (by omega)]; exact bxx2,by rw [bx3 _ (by omega)]; exact bxl2,rfl,rfl⟩
        exact B.stab _ _ _ _ hCi I2 (fq3 _ _ (by omega)))
   exact ⟨s',hcall,hres⟩

def Gk (l:List FT) (n:Int):List (List Nat)×Int:=if mayP l then (if 0≤n∧n < (l.length:Int) then (climb l n.toNat,0) else ([],1)) else ([],4)
abbrev pA:C:=subC B5.body [1,1,0,1,0,0]
abbrev pC:C:=subC B5.body [1,1,0,1,0,1]
def PI (L:List (Nat×List (List Nat))) (n:Int) (b0 k1:Nat) (e:Tr) (j:Nat) (q:St):Prop :=
 (∀ (i:Nat) (x:Nat×List (List Nat)),i < j→L[i]? = some x→(x.1:Int)≠n)∧q.box? k1=some (.loop 0 none e [23] pA pC)∧q.box? b0=some (.cells 3 [.i .i64 n])∧q.box? (b0+1)=some (.cells 34 [.nsl])∧q.box? (b0+2)=some (.cells 26 [.i .i64 0])
def PR (p:List (List Nat)) (t0 b0 k1:Nat) (q:St):Prop :=
 (∃ tm ps a b,q.box? k1=some (.loop 2 (some .ret) tm ps a b))∧RG 1 t0 9 34 (b0+1) (p.map .s) true (CLow (k1+1)) q∧q.box? (b0+2)=some (.cells 26 [.i .i64 0])
theorem XR {s:St} {L:List (Nat×List (List Nat))} {n:Int} {p:List (List Nat)} {b0 k1:Nat} {e:Tr} (hk1:b0+5=k1) (hs:s.nb=b0) (g3:e.get 3=.p b0 0) (g4:e.get 4=.p (b0+1) 0) (g5:e.get 5=.p (b0+2) 0)
    (hL:∀ (i:Nat) (x:Nat×List (List Nat)),L[i]? = some x→(x.1:Int)=n→x.2=p) (hp:p.length < 2^36) :
    BodyG prog (fun j=>j=b0+3+1∨j=b0+3) s (k1+1) (k1+1) (.yld k1) (tdL L) (fun _ j q=>PI L n b0 k1 e j q) (PR p s.nt b0 k1) where
 stab:=fun C j q q' _ ⟨h1,h2,h3,h4,h5⟩ f=>⟨h1,by rw [f.box _ (by omega) (by omega)]; exact h2,by rw [f.box _ (by omega) (by omega)]; exact h3,by rw [f.box _ (by omega) (by omega)]; exact h4,by rw [f.box _ (by omega) (by omega)]; exact h5⟩
 enter:=fun C j q _ h _=>h
 leave:=fun C j s q v _ ⟨h1,h2,h3,h4,h5⟩ hs hn ht hw hv=>⟨h1,by rw [EW hw hn (by omega)]; exact h2,by rw [EW hw hn (by omega)]; exact h3,by rw [EW hw hn (by omega)]; exact h4,by rw [EW hw hn (by omega)]; exact h5⟩
 stabR:=fun q q' ⟨⟨tm,ps,a,b,h1⟩,h2,h3⟩ f=>⟨⟨tm,ps,a,b,by rw [f.box _ (by omega) (by omega)]; exact h1⟩,h2.stab (CLow.safe _) (by omega) (by omega) (Nat.le_refl _) f,by rw [f.box _ (by omega) (by omega)]; exact h3⟩
 leaveR:=fun s q v ⟨⟨tm,ps,a,b,h1⟩,h2,h3⟩ hs hn ht hw hv=>⟨⟨tm,ps,a,b,by rw [EW hw hn (by omega)]; exact h1⟩,h2.leaveL (by omega) hs hn ht hw hv,by rw [EW hw hn (by omega)]; exact h3⟩
 step := by
  intro C j hj q hC ⟨hI,hk,hb0,hb1,hb2⟩ hov hw hh
  have hj':j < L.length:=by simpa [tdL] using hj
  obtain ⟨x,hx⟩:∃ x,L[j]? = some x:=⟨_,List.getElem?_eq_getElem hj'⟩
  have hLj:(tdL L)[j]=[tdV x]:=by
   rw [List.getElem?_eq_getElem hj'] at hx
   simp only [tdL,List.getElem_map]
   rw [Option.some.inj hx]
  rw [hLj]
  obtain ⟨q0,st0,w0,nb0,nt0,bn0,bx0,ov0,fq0⟩:=Zf (q:=q) hw (T:=118) (m:=2) (z:=[.i .i64 0,.nsl]) (v:=tdV x) rfl ⟨rfl,rfl⟩ (by simp [tdV,tx,AV.refs,AV.refs.go,Gh])
  have ov0:=ov0 s hov
  obtain ⟨q1,hq1⟩:∃ q1,q0.setBox k1 (.loop 1 none e [23] pA pC)=q1:=⟨_,rfl⟩
  have w1:Wf q1:=by rw [← hq1]; exact w0.setBox _ _
  have nb1:q1.nb=q.nb+1∧q1.nt=q.nt:=by rw [← hq1]; exact ⟨nb0,nt0⟩
  have bx1:∀ i,q1.box? i=if i=k1 then some (.loop 1 none e [23] pA pC) else q0.box? i:=fun i=>by rw [← hq1]; exact setBox_box? w0.b (by omega) i
  have ov1:Over s q1:=by rw [← hq1]; exact Over.setBox ov0 (by omega) (by omega) _
  have b1k:=bx1 k1
  rw [if_pos rfl] at b1k
  have b10:q1.box? b0=some (.cells 3 [.i .i64 n]):=by rw [bx1,if_neg (by omega),bx0 _ (by omega)]; exact hb0
  have b11:q1.box? (b0+1)=some (.cells 34 [.nsl]):=by rw [bx1,if_neg (by omega),bx0 _ (by omega)]; exact hb1
  have b12:q1.box? (b0+2)=some (.cells 26 [.i .i64 0]):=by rw [bx1,if_neg (by omega),bx0 _ (by omega)]; exact hb2
  have b1n:q1.box? q.nb=some (.cells 118 (tdV x).cells):=by rw [bx1,if_neg (by omega)]; exact bn0
  have ldn:=D3 (s:=q1) (v:=.i .i64 n) (off:=0) b10 rfl
  have ldx:=D3 (s:=q1) (v:=.i .i64 (x.1:Nat)) (off:=0) b1n rfl
  have ldp:=D3 (s:=q1) (v:=tx x.2) (off:=1) b1n rfl
  have hkO:¬ (k1=b0+3+1∨k1=b0+3):=by omega
  refine K4 ?_
  refine PL (t:=e.set 10 23 (tdV x)) hk rfl ?_
  simp only [pA,B5,subC,go_sem,AD,AA,AC,AB,KB_n,KB_x,Nat.reduceBEq,Nat.reduceAdd,Nat.reduceLT,Nat.reduceLeDiff,Nat.reduceEqDiff,reduceIte,Int.reduceEq,reduceCtorEq,st0]
  refine ⟨_,_,_,_,by rw [bx0 k1 (by omega)]; exact hk,?_⟩
  rw [hq1]
  by_cases hxn:(x.1:Int)=n
  · have e1:((x.1:Int)=n)=True:=by simp [hxn]
    have hpl:=hL j x hx hxn
    obtain ⟨rest,H,hrest⟩:=Ze w1 ov1 [(b0+1,.cells 34 [.nsl]),(b0+2,.cells 26 [.i .i64 0]),(k1,.loop 1 none e [23] pA pC)] (by
     intro p hp
     simp only [List.mem_cons,List.not_mem_nil,or_false] at hp
     rcases hp with rfl | rfl | rfl
     · exact ⟨b11,by simp only; omega⟩
     · exact ⟨b12,by simp only; omega⟩
     · exact ⟨b1k,by simp only; omega⟩) (by simp; omega)
    obtain ⟨r,q2,d2,H2,n2⟩:=TN H x.2 (by rw [hpl]; omega)
    have rc:=H2.rcells 0 rfl
    obtain ⟨q3,d3,H3,n3,lo3⟩:=H2.st 0 (off:=0) (v:=r) rfl (by simp) ⟨rc.1,rc.2.1⟩
    obtain ⟨q4,d4,H4,n4,_⟩:=H3.st 1 (off:=0) (v:=.i .i64 0) rfl (by simp) ⟨rfl,rfl⟩
    have lr:ldR q1 (some (tx x.2))=some (tx x.2,q1):=rfl
    simp only [tx] at d2
    simp only [pC,B5,subC,go_sem,AD,AA,AC,AB,KB_n,KB_x,Nat.reduceBEq,Nat.reduceAdd,Nat.reduceLT,Nat.reduceLeDiff,Nat.reduceEqDiff,reduceIte,Int.reduceEq,reduceCtorEq,g3,g4,g5,ldn,ldx,ldp,lr,e1,d2,d3,d4]
    simp only [List.cons_append,List.nil_append,List.set_cons_zero,List.set_cons_succ] at H4
    have H5:=H4.setBox (i:=2) rfl (.loop 2 (some .ret) e [23] pA pC)
    simp only [List.set_cons_zero,List.set_cons_succ] at H5
    refine Ib (H4.box (i:=2) rfl).1 (by omega) H4.wf H4.over (by omega) (by omega) (by have:=H4.nt; simp only at this; omega) hkO (fun i hi hlt=>?_) (fun hh=>by simp at hh) (fun _=>⟨⟨_,_,_,_,(H5.box (i:=2) rfl).1⟩,⟨r,(H5.box (i:=0) rfl).1,by rw [← hpl]; exact H5.rows (i:=0) rfl,fun k hk=>?_⟩,(H5.box (i:=1) rfl).1⟩) (fun i hh=>by simp at hh)
    · rw [Hp.keep (M:=[_,_,_]) hrest w1 H4 (by omega) (by omega) (fun p hp=>by
       simp only [List.mem_cons,List.not_mem_nil,or_false] at hp
       rcases hp with rfl | rfl | rfl<;>simp only<;>omega),bx1,if_neg (by omega),bx0 i hlt]
    · have hrf:r.refs=true:=by
       rcases H2.rows (i:=0) rfl with h | ⟨k',v,t,h,_⟩
       · rw [Ea h] at hk; cases hk
       · simp only at h; rw [h]; rfl
      have h1:=lo3 hrf
      have h2:q4.lo≤q3.lo:=by
       have:=st_lo d4; omega
      show (q4.setBox k1 _).lo < k1+1
      have:(q4.setBox k1 (.loop 2 (some .ret) e [23] pA pC)).lo=q4.lo:=rfl
      omega
  · have e1:((x.1:Int)=n)=False:=by simp [hxn]
    simp only [pC,B5,subC,go_sem,AD,AA,AC,AB,KB_n,KB_x,Nat.reduceBEq,Nat.reduceAdd,Nat.reduceLT,Nat.reduceLeDiff,Nat.reduceEqDiff,reduceIte,Int.reduceEq,reduceCtorEq,g3,g4,g5,ldn,ldx,e1]
    have bx3:∀ B i,(q1.setBox k1 B).box? i=if i=k1 then some B else q1.box? i:=fun B i=>setBox_box? w1.b (by omega) i
    refine Ib b1k (by omega) w1 ov1 (by omega) (by omega) (by omega) hkO (fun i hi hlt=>by rw [bx1,if_neg (by omega)]; exact bx0 i hlt) (fun _=>⟨fun i y hi hy=>?_,by rw [bx3,if_pos rfl],by rw [bx3,if_neg (by omega)]; exact b10,by rw [bx3,if_neg (by omega)]; exact b11,by rw [bx3,if_neg (by omega)]; exact b12⟩) (fun hh=>by simp at hh) (fun i hh=>by simp at hh)
    by_cases hij:i < j
    · exact hI i y hij hy
    · obtain rfl:i=j:=by omega
      rw [hx] at hy
      cases hy
      exact hxn
theorem MH {a:AV} {p:List (List Nat)} (h:Ca 1 a (p.map .s)) (e:Int) {s q:St} (ov:Over s q):KR s [(.sl 1 .id),.id] (.tup [tx p,.i .i64 e]) (some ([a,.i .i64 e],q)):=by
 refine AP ov ?_ ?_
 · simp only [CZ,AV.refs,AV.refs.go,h.refs (Gh p)]; rfl
 · simp only [wkZ,h.wk (QH p),CZ,wk,tx]
theorem RK {l:List FT} (h:MayD l):∀ n,n < l.length→(climb l n).length≤n:=by
 intro n
 induction n using Nat.strongRecOn with
 | _ n ih =>
   intro hn
   by_cases h0:n=0
   · subst h0; rw [LL]; simp
   · obtain ⟨u,f,h1,h2,h3,_⟩:=h.up n (by omega) hn
     rw [Oe h (by omega) hn h1 h2 h3,List.length_append]
     have:=ih u h2 (by omega)
     simp only [List.length_cons,List.length_nil]
     omega
theorem ZP (l:List FT) (ho:FOk l) (n:Int) (s:St) (hw:Wf s):(lim prog).call JZ [fx l,.i .i64 n] s=some (.tup [tx (Gk l n).1,.i .i64 (Gk l n).2],s):=by
 refine fn_W R7 rfl rfl ?_
 have hz0:wkZ B5.cin [fx l,.i .i64 n]=[fx l,.i .i64 n]:=by
  simp only [B5,wkZ,LF .ws,wk]
  rfl
 rw [hz0]
 have H1:=(((Hp.begin hw).new (.cells 3 [.i .i64 n])).new (.cells 34 [.nsl])).new (.cells 26 [.i .i64 0])
 obtain ⟨q3,hq3⟩:∃ q3,((s.enter.new (.cells 3 [.i .i64 n])).new (.cells 34 [.nsl])).new (.cells 26 [.i .i64 0])=q3:=⟨_,rfl⟩
 have nb3:q3.nb=s.nb+3:=by rw [← hq3]; rfl
 have e1:(s.enter.new (.cells 3 [.i .i64 n])).nb=s.nb+1:=rfl
 have e2:((s.enter.new (.cells 3 [.i .i64 n])).new (.cells 34 [.nsl])).nb=s.nb+2:=rfl
 have e3:s.enter.nb=s.nb:=rfl
 have c1:(AV.i .i64 n).cells=[.i .i64 n]:=rfl
 rw [hq3,e1,e2,e3] at H1
 have hmay:=WT l ho.ok ho.len ho.fl q3 H1.wf
 unfold fx at hmay
 have ldn:=H1.ld 2 (off:=0) (v:=.i .i64 n) rfl rfl
 cases hm:mayP l
 · rw [hm] at hmay
   obtain ⟨q4,d4,H4,n4,_⟩:=H1.st 1 (off:=0) (v:=.nsl) rfl (by simp) ⟨rfl,rfl⟩
   obtain ⟨q5,d5,H5,n5,_⟩:=H4.st 0 (off:=0) (v:=.i .i64 4) rfl (by simp) ⟨rfl,rfl⟩
   have la:=H5.ld 1 (off:=0) (v:=.nsl) rfl rfl
   have lb:=H5.ld 0 (off:=0) (v:=.i .i64 4) rfl rfl
   simp only [B5,go_sem,AD,AA,AC,AB,KB_n,KB_x,Nat.reduceBEq,Nat.reduceAdd,Nat.reduceLT,Nat.reduceLeDiff,Nat.reduceEqDiff,reduceIte,Int.reduceEq,reduceCtorEq,fx,hq3,e1,e2,e3,c1,List.length_cons,List.length_nil,hmay,d4,d5,la,lb]
   unfold Gk
   rw [hm,if_neg (by simp)]
   exact MH (p:=[]) (.inl ⟨rfl,rfl⟩) 4 H5.over
 · rw [hm] at hmay
   unfold Gk
   rw [hm,if_pos rfl]
   by_cases hr:0≤n∧n < (l.length:Int)
   · have r1:(n < 0)=False:=eq_false (by omega)
     have r2:((l.length:Int)≤n)=False:=eq_false (by omega)
     rw [if_pos hr]
     obtain ⟨q5,d5,w5,nb5,nt5,bl5,bt5,bx5,ov5,fq5⟩:=Th (l:=l) (x:=(0,[])) (a0:=fx l) (a1:=.nsl) .ws (.inl ⟨rfl,rfl⟩) H1.wf
     have ov5:=ov5 s H1.over
     simp only [fx,Int.natCast_zero] at d5
     simp only [B5,go_sem,AD,AA,AC,AB,KB_n,KB_x,Nat.reduceBEq,Nat.reduceAdd,Nat.reduceLT,Nat.reduceLeDiff,Nat.reduceEqDiff,reduceIte,Int.reduceEq,reduceCtorEq,fx,hq3,e1,e2,e3,c1,List.length_cons,List.length_nil,hmay,ldn,r1,r2,List.length_map,d5]
     refine aX (g:=B4) (caps:=[.p (q3.nb+1) 0,.p q3.nb 0]) (by simp only [go_sem,AD,AA,AC,AB,KB_n,KB_x,Nat.reduceBEq,Nat.reduceAdd,Nat.reduceLT,Nat.reduceLeDiff,Nat.reduceEqDiff,reduceIte,Int.reduceEq,reduceCtorEq]) fun e' he'=>?_
     have z3:e'.get 3=.p s.nb 0:=by rw [he']; simp only [go_sem,AD,AA,AC,AB,KB_n,KB_x,Nat.reduceBEq,Nat.reduceAdd,Nat.reduceLT,Nat.reduceLeDiff,Nat.reduceEqDiff,reduceIte,Int.reduceEq,reduceCtorEq]
     have z4:e'.get 4=.p (s.nb+1) 0:=by rw [he']; simp only [go_sem,AD,AA,AC,AB,KB_n,KB_x,Nat.reduceBEq,Nat.reduceAdd,Nat.reduceLT,Nat.reduceLeDiff,Nat.reduceEqDiff,reduceIte,Int.reduceEq,reduceCtorEq]
     have z5:e'.get 5=.p (s.nb+2) 0:=by rw [he']; simp only [go_sem,AD,AA,AC,AB,KB_n,KB_x,Nat.reduceBEq,Nat.reduceAdd,Nat.reduceLT,Nat.reduceLeDiff,Nat.reduceEqDiff,reduceIte,Int.reduceEq,reduceCtorEq]
     clear he'
     obtain ⟨q6,hq6⟩:∃ q6,q5.new (.loop 0 none e' [23] pA pC)=q6:=⟨_,rfl⟩
     have w6:Wf q6:=by rw [← hq6]; exact w5.new _
     have nb6:q6.nb=q5.nb+1:=by rw [← hq6]; rfl
     have ov6:Over s q6:=by rw [← hq6]; exact ov5.new _
     have bx6:∀ i,i < q5.nb→q6.box? i=q5.box? i:=fun i hi=>by rw [← hq6]; exact CK hi
     have bk6:q6.box? q5.nb=some (.loop 0 none e' [23] pA pC):=by rw [← hq6]; exact BG q5 _
     have hd:=mayD hm
     have hnl:n.toNat < l.length:=by omega
     have B:=XR (s:=s) (L:=belowF l l.length 0 []) (n:=n) (p:=climb l n.toNat) (b0:=s.nb) (k1:=q5.nb) (e:=e') (by omega) rfl z3 z4 z5 (fun i x hx hxn=>by
      have hx:=List.mem_of_getElem? hx
      rw [← LL l] at hx
      have:=(NX hm l.length 0 hd.pos hx).2
      rw [this,← hxn,Int.toNat_natCast]) (by have:=RK hd n.toNat hnl; have:=ho.len; omega)
     have b0:=(H1.box (i:=2) rfl).1
     have b1:=(H1.box (i:=1) rfl).1
     have b2:=(H1.box (i:=0) rfl).1
     simp only at b0 b1 b2
     obtain ⟨q7,d7,ov7,w7,nb7,nt7,hres7⟩:=RJ hm ho.ok ho.len l.length 0 [] hd.pos (by have:=ho.len; simp; omega) (s:=q6) (xb:=q3.nb+1) (lb:=q3.nb) (by rw [bx6 _ (by omega)]; exact bt5) (by rw [bx6 _ (by omega)]; exact bl5) (by omega) (by omega) (by omega)
      s (q5.nb+1) (q5.nb+1) q5.nb _ _ (C0 (q5.nb+1) 0) (C0.safe _ _) (Nat.le_refl _) (by rw [nb3]; exact B)
      (show PI (belowF l l.length 0 []) n s.nb q5.nb e' 0 q6 from ⟨fun i x hi=>by omega,bk6,by rw [bx6 _ (by omega),bx5 _ (by omega)]; exact b0,by rw [bx6 _ (by omega),bx5 _ (by omega)]; exact b1,by rw [bx6 _ (by omega),bx5 _ (by omega)]; exact b2⟩) ov6 w6 (by omega) (by omega)
     rw [← hq6] at d7
     rcases hres7 with ⟨hI7,_⟩ | ⟨⟨tm,ps,a,b,hk7⟩,hrg,hb2⟩
     · obtain ⟨j,hj⟩:=XM hm hnl
       have hjl:j < (tdL (belowF l l.length 0 [])).length:=by
        rw [List.getElem?_eq_some_iff] at hj
        simpa [tdL] using hj.1
       exact absurd (by simp only; omega) (hI7 j _ hjl hj)
     · refine ⟨_,q7,d7,_,_,_,_,_,_,hk7,by decide,?_⟩
       have fq7:Fq (fun j=>j=s.nb+3+1∨j=s.nb+3) q5.nb q7 (q7.setBox q5.nb .used):=Fq.setBox w7 (by omega) (.inl (Nat.le_refl _)) (by omega) _
       obtain ⟨q8,hq8⟩:∃ q8,q7.setBox q5.nb .used=q8:=⟨_,rfl⟩
       rw [hq8] at fq7
       have w8:Wf q8:=by rw [← hq8]; exact w7.setBox _ _
       have ov8:Over s q8:=by rw [← hq8]; exact Over.setBox ov7 (by omega) (by omega) _
       obtain ⟨r,k1,k2,_⟩:=hrg
       have k1:q8.box? (s.nb+1)=some (.cells 34 [r]):=by rw [fq7.box _ (by omega) (by omega)]; exact k1
       have k3:q8.box? (s.nb+2)=some (.cells 26 [.i .i64 0]):=by rw [fq7.box _ (by omega) (by omega)]; exact hb2
       have k2:=k2.mono fq7.tok.1 fun k hk=>fq7.tok.2 k (k2.tok_lt hk)
       obtain ⟨rest,H8,_⟩:=Ze w8 ov8 [] (by simp) (by simp)
       have H8:=H8.addRow k2
       obtain ⟨r',q9,d9,t9,H9,n9⟩:=H8.pub 0 rfl
       have d9A:pubA q8 r=some (r',q9):=by
        rw [L7 (H8.rows (i:=0) rfl)]; exact d9
       have la:=D3 (s:=q8) (v:=r) (off:=0) k1 rfl
       have hbb:q9.box? (s.nb+2)=q8.box? (s.nb+2):=aY d9 _
       have lb:=D3 (s:=q9) (v:=.i .i64 0) (off:=0) (by rw [hbb]; exact k3) rfl
       simp only [hq8,go_sem,AD,AA,AC,AB,KB_n,KB_x,Nat.reduceBEq,Nat.reduceAdd,Nat.reduceLT,Nat.reduceLeDiff,Nat.reduceEqDiff,reduceIte,Int.reduceEq,reduceCtorEq,z4,z5,la,lb,d9A]
       exact MH t9 0 H9.over
   · rw [if_neg hr]
     obtain ⟨q4,d4,H4,n4,_⟩:=H1.st 1 (off:=0) (v:=.nsl) rfl (by simp) ⟨rfl,rfl⟩
     obtain ⟨q5,d5,H5,n5,_⟩:=H4.st 0 (off:=0) (v:=.i .i64 1) rfl (by simp) ⟨rfl,rfl⟩
     have la:=H5.ld 1 (off:=0) (v:=.nsl) rfl rfl
     have lb:=H5.ld 0 (off:=0) (v:=.i .i64 1) rfl rfl
     by_cases r1:n < 0
     · have r1':(n < 0)=True:=by simp [r1]
       simp only [B5,go_sem,AD,AA,AC,AB,KB_n,KB_x,Nat.reduceBEq,Nat.reduceAdd,Nat.reduceLT,Nat.reduceLeDiff,Nat.reduceEqDiff,reduceIte,Int.reduceEq,reduceCtorEq,fx,hq3,e1,e2,e3,c1,List.length_cons,List.length_nil,hmay,ldn,r1',d4,d5,la,lb]
       exact MH (p:=[]) (.inl ⟨rfl,rfl⟩) 1 H5.over
     · have r1':(n < 0)=False:=by simp [r1]
       have r2':((l.length:Int)≤n)=True:=eq_true (by omega)
       simp only [B5,go_sem,AD,AA,AC,AB,KB_n,KB_x,Nat.reduceBEq,Nat.reduceAdd,Nat.reduceLT,Nat.reduceLeDiff,Nat.reduceEqDiff,reduceIte,Int.reduceEq,reduceCtorEq,fx,hq3,e1,e2,e3,c1,List.length_cons,List.length_nil,hmay,ldn,r1',r2',List.length_map,d4,d5,la,lb]
       exact MH (p:=[]) (.inl ⟨rfl,rfl⟩) 1 H5.over
end Go.Proofs.YtgloinighjdhlaaGreat

namespace Go.Proofs.YtgloinighjdhlaaGreat
open Go.Proofs.YtgloinighjdhlaaGreat.Am
theorem UT {t0:Nat} {s:St} {r:RA} (h:RowH t0 s r):elems s r.es r.a=some r.xs:=by
 rcases h with h | ⟨k,v,t,h,h1,h2,h3,h4,_⟩
 · exact h.told.elems s
 · rw [h]
   simp [elems,St.ok,h3,h4]
def OutR (es T:Nat) (a:AV) (xs:List AV) (R:List RA):Prop:=JS es a xs∨∃ fr,R[0]? = some ⟨es,T,a,xs,fr⟩
theorem OutR.elems {es T:Nat} {a:AV} {xs:List AV} {R:List RA} {B:List (Nat×Box)} {s0 s:St} {n:En} (h:OutR es T a xs R) (H:Hp s0 s n R B):Am.elems s es a=some xs:=by
 rcases h with h | ⟨fr,h⟩
 · exact h.told.elems s
 · exact UT (H.rows h)
theorem OutR.pubA {es T:Nat} {a:AV} {xs:List AV} {R:List RA} {B:List (Nat×Box)} {s0 s:St} {n:En} (h:OutR es T a xs R) (H:Hp s0 s n R B):∃ a' s' R',Am.pubA s a=some (a',s')∧Ca es a' xs∧Hp s0 s' n R' B:=by
 rcases h with h | ⟨fr,h⟩
 · exact ⟨a,s,R,h.told.pubA s,h.told,H⟩
 · obtain ⟨a',s',d,t,H',_⟩:=H.pub 0 h
   exact ⟨a',s',_,by rw [L7 (H.rows h)]; exact d,t,H'⟩

theorem Ka:∀ {a b c:List Nat},ltN a b=true→ltN b c=true→ltN a c=true
 | [],[],_,h,_=>by simp [ltN] at h
 | _::_,[],_,h,_=>by simp [ltN] at h
 | _,_::_,[],_,h=>by simp [ltN] at h
 | [],_::_,_::_,_,_=>rfl
 | a :: x,b::y,c::z,h1,h2=>by
   simp only [ltN,Bool.or_eq_true,Bool.and_eq_true,Nat.blt_eq,Nat.beq_eq] at h1 h2 ⊢
   rcases h1 with h1 | ⟨h1,h3⟩
   · rcases h2 with h2 | ⟨h2,_⟩
     · left; omega
     · left; omega
   · rcases h2 with h2 | ⟨h2,h4⟩
     · left; omega
     · right; exact ⟨by omega,Ka h3 h4⟩
end Go.Proofs.YtgloinighjdhlaaGreat
