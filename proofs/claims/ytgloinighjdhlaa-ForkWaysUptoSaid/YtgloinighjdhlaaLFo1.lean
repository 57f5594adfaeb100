/-
  The abstract machine's functions are the dump's. By program.
-/
import Derived.Test.YtgloinighjdhlaaRows
import Derived.Test.YtgloinighjdhlaaAmKeep
import Derived.Test.YtgloinighjdhlaaFns
import Derived.Test.YtgloinighjdhlaaPrims
import Derived.KernelRfl
import Derived.Test.YtgloinighjdhlaaAmRg
import Derived.Laws.RangeAny
set_option linter.all false
set_option linter.unusedVariables false
set_option linter.unusedSimpArgs false
set_option linter.unusedSectionVars false
set_option maxRecDepth 100000
namespace Go.Proofs.Ytgloinighjdhlaa
open Go.Proofs.Ytgloinighjdhlaa.Am Go.Proofs
def gt:Nat→Option (List AV)
 | _=>none
theorem Fm:compF Try.prog gt false false [] Try.f3=some Aj:=by kernel_rfl
theorem HJ:compF Try.prog gt false false [1000006000,1000009000,1000011000] Try.f7=some BT:=by kernel_rfl
theorem Gy:compF Try.prog gt false false [1000005006] Try.f8=some EB:=by kernel_rfl
theorem MZ:compF Try.prog gt true false [] Try.f9=some DK:=by kernel_rfl
theorem HL:compF Try.prog gt false false [] Try.f10=some AO:=by kernel_rfl
theorem HM:compF Try.prog gt false false [] Try.f11=some Bm:=by kernel_rfl
theorem Gz:compF Try.prog gt false false [1000004000,1000006000,1000008000,1000010000,1000011000] Try.f12=some BM:=by kernel_rfl
theorem OF:compF Try.prog gt false false [] Try.f13=some JT:=by kernel_rfl
theorem PS:compF Try.prog gt false false [1000014003] Try.f28=some EP:=by kernel_rfl
theorem Fu:compF Try.prog gt false false [] Try.f30=some AY:=by kernel_rfl
theorem HN:compF Try.prog gt false false [] Try.f31=some Ar:=by kernel_rfl
theorem G0:compF Try.prog gt false false [1000013000] Try.f32=some Ad:=by kernel_rfl
theorem HO:compF Try.prog gt false false [1000004000] Try.f33=some Al:=by kernel_rfl
theorem HQ:compF Try.prog gt false false [] Try.f34=some B9:=by kernel_rfl
theorem C7:compF Try.prog gt true false [] Try.f35=some AM:=by kernel_rfl
theorem Ho:compF Try.prog gt false false [1000009000] Try.f39=some BI:=by kernel_rfl
theorem PU:compF Try.prog gt false false [] Try.f50=some Ey:=by kernel_rfl
theorem PV:compF Try.prog gt false false [] Try.f51=some Cx:=by kernel_rfl
theorem DU:compF Try.prog gt false false [] Try.f52=some AN:=by kernel_rfl
theorem Ma:compF Try.prog gt false false [] Try.f53=some FZ:=by kernel_rfl
theorem E4:compF Try.prog gt true false [] Try.f54=some BD:=by kernel_rfl
theorem Jc:compF Try.prog gt true false [] Try.f55=some Cc:=by kernel_rfl
theorem E5:compF Try.prog gt true false [] Try.f56=some BE:=by kernel_rfl
theorem KZ:compF Try.prog gt true false [] Try.f57=some Cy:=by kernel_rfl
theorem Ka:compF Try.prog gt false false [] Try.f58=some Cz:=by kernel_rfl
theorem E6:compF Try.prog gt true false [] Try.f59=some BF:=by kernel_rfl
theorem Kb:compF Try.prog gt true false [] Try.f60=some C1:=by kernel_rfl
theorem Hq:compF Try.prog gt false false [1000002000] Try.f61=some A5:=by kernel_rfl
theorem HR:compF Try.prog gt false false [1000002007] Try.f62=some c_touchstoneref22_with:=by kernel_rfl
theorem GP:compF Try.prog gt false false [] Try.f63=some Ai:=by kernel_rfl
theorem G1:compF Try.prog gt false false [] Try.f64=some Au:=by kernel_rfl
theorem G3:compF Try.prog gt false false [] Try.f65=some Cd:=by kernel_rfl
theorem Hr:compF Try.prog gt false false [] Try.f75=some BX:=by kernel_rfl
theorem Hs:compF Try.prog gt false false [] Try.f76=some Aa:=by kernel_rfl
theorem G4:compF Try.prog gt false false [1000006000,1000008000] Try.f77=some Be:=by kernel_rfl
theorem DY:compF Try.prog gt true false [] Try.f81=some AL:=by kernel_rfl
theorem HS:compF Try.prog gt false false [] Try.f83=some BB:=by kernel_rfl
theorem Mb:compF Try.prog gt false false [] Try.f84=some DL:=by kernel_rfl
theorem Dt:compF Try.prog gt false false [] Try.f85=some AZ:=by kernel_rfl
theorem IT:compF Try.prog gt true false [1000009011] Try.f86=some BP:=by kernel_rfl
theorem Ht:compF Try.prog gt false false [] Try.f87=some BH:=by kernel_rfl
theorem Mc:compF Try.prog gt false false [] Try.f88=some Dg:=by kernel_rfl
theorem Jd:compF Try.prog gt false false [] Try.f89=some DM:=by kernel_rfl
theorem Hu:compF Try.prog gt false false [] Try.f90=some Cl:=by kernel_rfl
theorem IU:compF Try.prog gt false false [] Try.f91=some Bp:=by kernel_rfl
theorem IV:compF Try.prog gt false false [] Try.f92=some C5:=by kernel_rfl
theorem IW:compF Try.prog gt false false [] Try.f93=some CJ:=by kernel_rfl
theorem IX:compF Try.prog gt false false [] Try.f94=some Bq:=by kernel_rfl
theorem IY:compF Try.prog gt false false [] Try.f95=some C6:=by kernel_rfl
theorem Fg:compF Try.prog gt false false [] Try.f96=some Cm:=by kernel_rfl
theorem Fh:compF Try.prog gt false false [1000002003] Try.f100=some BZ:=by kernel_rfl
theorem EU:compF Try.prog gt false false [] Try.f101=some BN:=by kernel_rfl
theorem E1:compF Try.prog gt false false [] Try.f108=some CO:=by kernel_rfl
theorem Md:compF Try.prog gt true false [3000000005,1000005003] Try.f109=some DN:=by kernel_rfl
theorem Hv:compF Try.prog gt false false [1000001001] Try.f110=some DC:=by kernel_rfl
theorem C8:compF Try.prog gt false false [] Try.f111=some A8:=by kernel_rfl
theorem E7:compF Try.prog gt true false [] Try.f113=some CV:=by kernel_rfl
theorem Dz:compF Try.prog gt false false [] Try.f115=some A6:=by kernel_rfl
theorem Fv:compF Try.prog gt false false [] Try.f119=some Bi:=by kernel_rfl
theorem Ec:compF Try.prog gt true false [] Try.f120=some AP:=by kernel_rfl
theorem Du:compF Try.prog gt true true [] Try.f122=some Ak:=by kernel_rfl
theorem Fi:compF Try.prog gt false false [] Try.f126=some A7:=by kernel_rfl
theorem Di:compF Try.prog gt false false [] Try.f127=some Ba:=by kernel_rfl
theorem Ed:compF Try.prog gt false false [] Try.f128=some BU:=by kernel_rfl
theorem Dj:compF Try.prog gt false false [] Try.f129=some Bb:=by kernel_rfl
theorem EC:compF Try.prog gt false false [] Try.f141=some Br:=by kernel_rfl
theorem Dv:compF Try.prog gt false false [] Try.f142=some B8:=by kernel_rfl
theorem Yr:tabC.All (Ps Try.prog gt) :=
 ⟨.inl ⟨rfl,Try.f90,[],false,Try.func90,Hu⟩,⟨.inl ⟨rfl,Try.f56,[],false,Try.func56,E5⟩,⟨.inl ⟨rfl,Try.f50,[],false,Try.func50,PU⟩,⟨.inl ⟨rfl,Try.f28,[1000014003],false,Try.func28,PS⟩,⟨.inl ⟨rfl,Try.f9,[],false,Try.func9,MZ⟩,⟨.inl ⟨rfl,Try.f8,[1000005006],false,Try.func8,Gy⟩,trivial,trivial⟩,⟨.inl ⟨rfl,Try.f13,[],false,Try.func13,OF⟩,trivial,trivial⟩⟩,⟨.inl ⟨rfl,Try.f35,[],false,Try.func35,C7⟩,⟨.inl ⟨rfl,Try.f30,[],false,Try.func30,Fu⟩,trivial,trivial⟩,trivial⟩⟩,⟨.inl ⟨rfl,Try.f53,[],false,Try.func53,Ma⟩,⟨.inl ⟨rfl,Try.f52,[],false,Try.func52,DU⟩,⟨.inl ⟨rfl,Try.f51,[],false,Try.func51,PV⟩,trivial,trivial⟩,trivial⟩,⟨.inl ⟨rfl,Try.f55,[],false,Try.func55,Jc⟩,⟨.inl ⟨rfl,Try.f54,[],false,Try.func54,E4⟩,trivial,trivial⟩,trivial⟩⟩⟩,⟨.inl ⟨rfl,Try.f84,[],false,Try.func84,Mb⟩,⟨.inl ⟨rfl,Try.f59,[],false,Try.func59,E6⟩,⟨.inl ⟨rfl,Try.f58,[],false,Try.func58,Ka⟩,⟨.inl ⟨rfl,Try.f57,[],false,Try.func57,KZ⟩,trivial,trivial⟩,trivial⟩,⟨.inl ⟨rfl,Try.f81,[],false,Try.func81,DY⟩,⟨.inl ⟨rfl,Try.f60,[],false,Try.func60,Kb⟩,trivial,trivial⟩,trivial⟩⟩,⟨.inl ⟨rfl,Try.f87,[],false,Try.func87,Ht⟩,⟨.inl ⟨rfl,Try.f86,[1000009011],false,Try.func86,IT⟩,⟨.inl ⟨rfl,Try.f85,[],false,Try.func85,Dt⟩,trivial,trivial⟩,trivial⟩,⟨.inl ⟨rfl,Try.f89,[],false,Try.func89,Jd⟩,⟨.inl ⟨rfl,Try.f88,[],false,Try.func88,Mc⟩,trivial,trivial⟩,trivial⟩⟩⟩⟩,⟨.inl ⟨rfl,Try.f113,[],false,Try.func113,E7⟩,⟨.inl ⟨rfl,Try.f100,[1000002003],false,Try.func100,Fh⟩,⟨.inl ⟨rfl,Try.f94,[],false,Try.func94,IX⟩,⟨.inl ⟨rfl,Try.f92,[],false,Try.func92,IV⟩,⟨.inl ⟨rfl,Try.f91,[],false,Try.func91,IU⟩,trivial,trivial⟩,⟨.inl ⟨rfl,Try.f93,[],false,Try.func93,IW⟩,trivial,trivial⟩⟩,⟨.inl ⟨rfl,Try.f96,[],false,Try.func96,Fg⟩,⟨.inl ⟨rfl,Try.f95,[],false,Try.func95,IY⟩,trivial,trivial⟩,trivial⟩⟩,⟨.inl ⟨rfl,Try.f109,[3000000005,1000005003],false,Try.func109,Md⟩,⟨.inl ⟨rfl,Try.f108,[],false,Try.func108,E1⟩,⟨.inl ⟨rfl,Try.f101,[],false,Try.func101,EU⟩,trivial,trivial⟩,trivial⟩,⟨.inl ⟨rfl,Try.f111,[],false,Try.func111,C8⟩,⟨.inl ⟨rfl,Try.f110,[1000001001],false,Try.func110,Hv⟩,trivial,trivial⟩,trivial⟩⟩⟩,⟨.inl ⟨rfl,Try.f126,[],false,Try.func126,Fi⟩,⟨.inl ⟨rfl,Try.f119,[],false,Try.func119,Fv⟩,⟨.inl ⟨rfl,Try.f115,[],false,Try.func115,Dz⟩,⟨.inr ⟨_,rfl,Dw⟩,trivial,trivial⟩,trivial⟩,⟨.inl ⟨rfl,Try.f122,[],true,Try.func122,Du⟩,⟨.inl ⟨rfl,Try.f120,[],false,Try.func120,Ec⟩,trivial,trivial⟩,trivial⟩⟩,⟨.inl ⟨rfl,Try.f129,[],false,Try.func129,Dj⟩,⟨.inl ⟨rfl,Try.f128,[],false,Try.func128,Ed⟩,⟨.inl ⟨rfl,Try.f127,[],false,Try.func127,Di⟩,trivial,trivial⟩,trivial⟩,⟨.inl ⟨rfl,Try.f142,[],false,Try.func142,Dv⟩,⟨.inl ⟨rfl,Try.f141,[],false,Try.func141,EC⟩,trivial,trivial⟩,trivial⟩⟩⟩⟩⟩
theorem Ys:∀ (f:Nat) (fn:Fun),progC f=some fn→Ps Try.prog gt f fn:=fun f fn h=>PT.all_get Yr h
end Go.Proofs.Ytgloinighjdhlaa

namespace Go.Proofs.Ytgloinighjdhlaa
def inR (m:Nat) (x:Int):Bool:=decide (1≤x)&&decide (x≤m)
theorem NF (f:Nat→Nat):∀ m,(∀ j,j < m→f j=1)→((List.range m).map f).sum=m
 | 0,_=>rfl
 | m+1,h=>by
   rw [List.range_succ,List.map_append,List.sum_append,NF f m (fun j hj=>h j (by omega))]
   simp [h m (by omega)]
theorem YG (m:Nat) (x:Int):((List.range m).map fun j:Nat=>if x=(j:Int)+1 then 1 else 0).sum=if inR m x then 1 else 0:=by
 induction m with
 | zero =>
   have:inR 0 x=false:=by simp [inR]; omega
   simp [this]
 | succ m ih =>
   rw [List.range_succ,List.map_append,List.sum_append,ih]
   simp only [List.map_cons,List.map_nil,List.sum_cons,List.sum_nil,inR]
   by_cases h1:x=(m:Int)+1
   · have a1:¬ (1≤x∧x≤(m:Int)):=by omega
     have a2:1≤x∧x≤((m+1:Nat):Int):=by omega
     simp only [← Bool.decide_and,decide_eq_true_eq]
     rw [if_pos h1,if_neg a1,if_pos a2]; rfl
   · simp only [← Bool.decide_and,decide_eq_true_eq]
     rw [if_neg h1]
     by_cases h2:1≤x∧x≤(m:Int)
     · have a2:1≤x∧x≤((m+1:Nat):Int):=by omega
       rw [if_pos h2,if_pos a2]; rfl
     · have a2:¬ (1≤x∧x≤((m+1:Nat):Int)):=by omega
       rw [if_neg h2,if_neg a2]; rfl
theorem T4 (f g:Nat→Nat):∀ l:List Nat,(l.map fun j=>f j+g j).sum=(l.map f).sum+(l.map g).sum
 | []=>rfl
 | a::l=>by simp only [List.map_cons,List.sum_cons,T4 f g l]; omega
theorem O6 (m:Nat):∀ F:List Int,((List.range m).map fun j:Nat=>F.count ((j:Int)+1)).sum=F.countP (inR m)
 | []=>by
   simp only [List.count_nil,List.countP_nil]
   induction m with
   | zero=>rfl
   | succ m ih=>rw [List.range_succ,List.map_append,List.sum_append,ih]; rfl
 | x::F=>by
   have h:(fun j:Nat=>(x::F).count ((j:Int)+1))=fun j:Nat=>F.count ((j:Int)+1)+(if x=(j:Int)+1 then 1 else 0):=by
    funext j
    rw [List.count_cons]
    simp only [beq_iff_eq]
   rw [h,T4,O6 m F,YG,List.countP_cons]
theorem MC {m:Nat} {F:List Int} (h:∀ j,1≤j→j≤m→F.count (j:Int)=1):F.countP (inR m)=m:=by
 rw [← O6]
 refine NF _ m fun j hj=>?_
 have:=h (j+1) (by omega) (by omega)
 simpa using this
theorem QH {m:Nat} {F:List Int} (h:∀ j,1≤j→j≤m→F.count (j:Int)=1) (hr:∀ x∈F,1≤x∧x≤(m:Int)):F.length=m:=by
 rw [← MC h]
 exact (List.countP_eq_length.2 fun x hx=>by simp [inR,hr x hx]).symm
theorem R7 {m:Nat} {F:List Int} (h:∀ j,1≤j→j≤m→F.count (j:Int)=1) (hl:F.length=m):∀ x∈F,1≤x∧x≤(m:Int):=by
 have h1:=MC h
 rw [← hl] at h1
 intro x hx
 have h2:F.countP (inR m)=F.length:=by rw [hl] at h1 ⊢; exact h1
 have:=List.countP_eq_length.1 h2 x hx
 simpa [inR] using this
structure FT where
 known:Bool
 kind:Nat
 names:List (List Nat)
 kids:List Int
 rest:Int
 beside:Int
def flatK (l:List FT):List Int:=(l.map FT.kids).flatten
def cntK (l:List FT) (j:Int):Nat:=(flatK l).count j
def IR (n:Nat):Nat→List FT→Bool
 | _,[]=>true
 | i,f::l=>(f.kids.all fun k=>decide ((i:Int) < k)&&decide (k < (n:Int)))&&IR n (i+1) l
def O7 (l:List FT):Bool:=(List.range (l.length - 1)).all fun j=>decide (cntK l ((j:Int)+1)=1)
theorem GJ {n:Nat}:∀ {l:List FT} {i:Nat},IR n i l=true↔∀ (a:Nat) (f:FT),l[a]? = some f→∀ k∈f.kids,((i+a:Nat):Int) < k∧k < (n:Int)
 | [],i=>by simp [IR]
 | f :: l,i=>by
   simp only [IR,Bool.and_eq_true,List.all_eq_true,decide_eq_true_eq,GJ (l:=l)]
   constructor
   · rintro ⟨h1,h2⟩ a g hg k hk
     cases a with
     | zero=>simp only [List.getElem?_cons_zero,Option.some.injEq] at hg; subst hg; exact h1 k hk
     | succ a =>
       have:=h2 a g (by simpa using hg) k hk
       exact ⟨by omega,this.2⟩
   · intro h
     refine ⟨fun k hk=>h 0 f rfl k hk,fun a g hg k hk=>?_⟩
     have:=h (a+1) g (by simpa using hg) k hk
     exact ⟨by omega,this.2⟩
theorem Vr {l:List FT}:O7 l=true↔∀ j,1≤j→j≤l.length - 1→cntK l (j:Int)=1:=by
 simp only [O7,List.all_eq_true,List.mem_range,decide_eq_true_eq]
 constructor
 · intro h j h1 h2
   have:=h (j - 1) (by omega)
   rw [show (((j - 1:Nat):Int)+1)=(j:Int) by omega] at this
   exact this
 · intro h j hj
   have:=h (j+1) (by omega) (by omega)
   simpa using this
def Hi (l:List FT) (j:Int):Option Nat:=if cntK l j=1 then l.findIdx? fun f=>f.kids.contains j else none
theorem NG {l:List FT} {j:Int} (h:cntK l j=1):∃ i f,Hi l j=some i∧l[i]? = some f∧j∈f.kids:=by
 have hm:j∈flatK l:=by
  rw [← List.count_pos_iff]
  unfold cntK at h
  omega
 unfold flatK at hm
 rw [List.mem_flatten] at hm
 obtain ⟨ks,hks,hj⟩:=hm
 obtain ⟨f,hf,rfl⟩:=List.mem_map.1 hks
 unfold Hi
 rw [if_pos h]
 cases hi:l.findIdx? fun f=>f.kids.contains j with
 | none =>
   rw [List.findIdx?_eq_none_iff] at hi
   have:=hi f hf
   simp [hj] at this
 | some i =>
   rw [List.findIdx?_eq_some_iff_getElem] at hi
   obtain ⟨h1,h2,_⟩:=hi
   exact ⟨i,l[i],rfl,List.getElem?_eq_getElem h1,by simpa using h2⟩
theorem Q9 {l:List FT} {i:Nat} {f:FT} (h:l[i]? = some f) {k:Int} (hk:k∈f.kids):k∈flatK l:=by
 unfold flatK
 rw [List.mem_flatten]
 exact ⟨f.kids,List.mem_map.2 ⟨f,List.mem_of_getElem? h,rfl⟩,hk⟩
theorem T5 {l:List FT} {i i':Nat} {f f':FT} (hii:i≠i') (h:l[i]? = some f) (h':l[i']? = some f') {k:Int} (hk:k∈f.kids) (hk':k∈f'.kids):2≤cntK l k:=by
 have key:∀ {l:List FT} {i i':Nat} {f f':FT},i < i'→l[i]? = some f→l[i']? = some f'→k∈f.kids→k∈f'.kids→2≤cntK l k:=by
  intro l
  induction l with
  | nil=>intro i i' f f' _ h; simp at h
  | cons a l ih =>
    intro i i' f f' hlt h h' hk hk'
    have hc:cntK (a::l) k=a.kids.count k+cntK l k:=by simp [cntK,flatK,List.count_append]
    cases i' with
    | zero=>omega
    | succ i' =>
      cases i with
      | zero =>
        simp only [List.getElem?_cons_zero,Option.some.injEq] at h
        subst h
        have h1:=List.count_pos_iff.2 hk
        have h2:0 < cntK l k:=List.count_pos_iff.2 (Q9 (by simpa using h') hk')
        omega
      | succ i =>
        have:=ih (i:=i) (i':=i') (by omega) (by simpa using h) (by simpa using h') hk hk'
        omega
 rcases Nat.lt_or_ge i i' with hlt | hge
 · exact key hlt h h' hk hk'
 · exact key (by omega) h' h hk' hk
theorem RC {l:List FT} {j:Int} (h:cntK l j=1) {i:Nat} {f:FT} (hf:l[i]? = some f) (hj:j∈f.kids):Hi l j=some i:=by
 obtain ⟨i',f',h1,h2,h3⟩:=NG h
 by_cases hii:i=i'
 · rw [h1,hii]
 · have:=T5 hii hf h2 hj h3
   omega
def upB (l:List FT):Bool:=(List.range (l.length - 1)).all fun j=>match Hi l ((j:Int)+1) with
 | some n=>decide (n < j+1)
 | none=>false
theorem Wl {l:List FT}:upB l=true↔∀ j,1≤j→j≤l.length - 1→∃ n,Hi l (j:Int)=some n∧n < j:=by
 simp only [upB,List.all_eq_true,List.mem_range]
 constructor
 · intro h j h1 h2
   have:=h (j - 1) (by omega)
   rw [show (((j - 1:Nat):Int)+1)=(j:Int) by omega] at this
   cases ha:Hi l (j:Int) with
   | none=>rw [ha] at this; cases this
   | some n=>rw [ha] at this; exact ⟨n,rfl,by have:=of_decide_eq_true this; omega⟩
 · intro h j hj
   obtain ⟨n,h1,h2⟩:=h (j+1) (by omega) (by omega)
   rw [show ((j:Int)+1)=((j+1:Nat):Int) by omega,h1]
   simp only [decide_eq_true_eq]
   omega
theorem YH (l:List FT) (hl:l≠[]):(IR l.length 0 l&&O7 l)=(decide ((flatK l).length=l.length - 1)&&upB l):=by
 have hpos:=List.length_pos_iff.2 hl
 rw [Bool.eq_iff_iff]
 simp only [Bool.and_eq_true,decide_eq_true_eq,GJ,Vr,Wl]
 constructor
 · rintro ⟨hb,ho⟩
   have hr:∀ x∈flatK l,1≤x∧x≤((l.length - 1:Nat):Int):=by
    intro x hx
    unfold flatK at hx
    rw [List.mem_flatten] at hx
    obtain ⟨ks,hks,hj⟩:=hx
    obtain ⟨f,hf,rfl⟩:=List.mem_map.1 hks
    obtain ⟨i,hi,he⟩:=List.mem_iff_getElem.1 hf
    have:=hb i f (by rw [List.getElem?_eq_getElem hi,he]) x hj
    omega
   refine ⟨QH ho hr,fun j h1 h2=>?_⟩
   obtain ⟨i,f,k1,k2,k3⟩:=NG (ho j h1 h2)
   have:=hb i f k2 _ k3
   exact ⟨i,k1,by omega⟩
 · rintro ⟨ht,hu⟩
   have ho:∀ j,1≤j→j≤l.length - 1→cntK l (j:Int)=1:=by
    intro j h1 h2
    obtain ⟨n,k1,_⟩:=hu j h1 h2
    unfold Hi at k1
    split at k1
    · assumption
    · cases k1
   refine ⟨fun a f hf k hk=>?_,ho⟩
   have hr:=R7 ho ht k (Q9 hf hk)
   obtain ⟨j,rfl⟩:∃ j:Nat,k=(j:Int):=⟨k.toNat,by omega⟩
   have h1:1≤j:=by omega
   have h2:j≤l.length - 1:=by omega
   obtain ⟨n,k1,k2⟩:=hu j h1 h2
   have:=RC (ho j h1 h2) hf hk
   rw [k1] at this
   cases this
   omega

open Go.Proofs.Ytgloinighjdhlaa.Am
abbrev tx (L:List (List Nat)):AV:=.ws false 1 (L.map .s)
theorem AI (k:IntKind) (i:Nat):Cq (.i k (i:Int))=some i:=by simp [Cq]
theorem Wu {L:List (List Nat)} {i:Nat} (h:i < L.length):(L.map AV.s)[i]? = some (.s L[i]):=by simp [h]
theorem Dy (s:St) (v:AV):ldA s false 1 (.ep [v] 0 .shut)=some v:=rfl
theorem Ff (l:List Nat):(AV.s l).cells=[.s l]:=rfl
theorem IH {i:Nat} (h:i < 2^63):IntKind.i64.wrap (i:Int)=i:=by
 have e1:((i:Int) % 2^64)=i:=by omega
 simp only [IntKind.wrap,IntKind.signed,IntKind.bits,e1]
 rw [if_neg]
 simp; omega
theorem A9 {i:Nat} (h:i+1 < 2^63):IntKind.i64.wrap ((i:Int)+1)=((i+1:Nat):Int):=by
 rw [← IH h]; simp
theorem Ap (n:Nat):Int.ofNat n=(n:Int):=rfl
def undP (L M:List (List Nat)):Bool:=decide (M.take L.length=L)
theorem Yh {L M:List (List Nat)} (h:M.take L.length=L):L.length≤M.length:=by
 have:=congrArg List.length h
 rw [List.length_take] at this
 omega
theorem Yi {L M:List (List Nat)} (h:M.take L.length=L) {i:Nat} (h1:i < L.length) (h2:i < M.length):L[i]=M[i]:=by
 have:=congrArg (fun l=>l[i]?) h
 simp only [List.getElem?_take,if_pos h1,List.getElem?_eq_getElem h1,List.getElem?_eq_getElem h2,Option.some.injEq] at this
 exact this.symm
theorem Ue {L M:List (List Nat)} {i:Nat} (h:L.take i=M.take i) (h1:i < L.length) (h2:i < M.length) (he:L[i]=M[i]):L.take (i+1)=M.take (i+1):=by
 rw [List.take_succ_eq_append_getElem h1,List.take_succ_eq_append_getElem h2,h,he]
theorem KV (L M:List (List Nat)) (hL:L.length < 2^62) (s:St):(lim prog).call DH [tx L,tx M] s=some (.b (undP L M),s):=by
 refine fn_W Gp rfl rfl ?_
 simp only [Cd,Fp,P2,P0,Ah,P3,Lx,Ly,Pz,Ae,Lz,Il,AH,Ir,P7,P8,P9,QA,Bool.not_true,Bool.not_false,L6,Iq,FY,Im,Io,KS_n,KS_x,KS_r,KB_n,KB_x,KB_r,Px,Py,P4,L5,KF_n,KF_r,KG_n,KG_r,KL_n,KL_x,KL_r,Ip,Gh,evOp,evX,X.ev,optX,Ft,Gf,Gi,P5,P6,Nat.reduceBEq,Nat.reduceAdd,Nat.reduceLT,Nat.reduceLeDiff,Nat.reduceEqDiff,reduceIte,if_true,if_false,Lb,Lc,Ld,Lf,Lg,Lh,Li,Lj,Lk,Ll,Lm,Ln,Am.unOp,ret1,pubL,pub,pubA,EV,wkZ,wk,Cr,FP,Bs,Cs,AOp.cls,Nat.beq_eq,Bool.or_eq_true,decide_true,decide_false,beq_self_eq_true,Bool.true_or,Bool.or_true,true_and,and_true,lenA,eqv,eqB,eqP,scal,BR,List.getElem?_cons_zero,List.getElem?_cons_succ,Lo,Lp,Jh,updM,Pt,Pu,Pv,Int.reduceEq,ret1,La,FX,reduceCtorEq,Bool.xor_true,Bool.xor_false,Bool.false_eq_true,List.all_cons,List.all_nil,noTok,Bool.and_self,Bool.and_true,Bool.true_and,List.length_map,Ap]
 refine L4 (fun h=>AU (Over.enter s) rfl ?_) (fun h=>?_)
 · have:¬ M.take L.length=L:=fun hh=>by have:=Yh hh; omega
   simp [Bs,wkZ,wk,undP,this]
 have hl:L.length≤M.length:=by omega
 refine CH (fun n e s1=>s1=s.enter∧e.get 0=tx L∧e.get 1=tx M∧∃ i:Nat,i+n=L.length∧e.get 5=.i .i64 i∧L.take i=M.take i) ?_ L.length _ _ ?_
 · rintro n e s1 ⟨rfl,h0,h1,i,hi,h5,hp⟩
   simp only [Fp,P2,P0,Ah,P3,Lx,Ly,Pz,Ae,Lz,Il,AH,Ir,P7,P8,P9,QA,Bool.not_true,Bool.not_false,L6,Iq,FY,Im,Io,KS_n,KS_x,KS_r,KB_n,KB_x,KB_r,Px,Py,P4,L5,KF_n,KF_r,KG_n,KG_r,KL_n,KL_x,KL_r,Ip,Gh,evOp,evX,X.ev,optX,Ft,Gf,Gi,P5,P6,Nat.reduceBEq,Nat.reduceAdd,Nat.reduceLT,Nat.reduceLeDiff,Nat.reduceEqDiff,reduceIte,if_true,if_false,Lb,Lc,Ld,Lf,Lg,Lh,Li,Lj,Lk,Ll,Lm,Ln,Am.unOp,ret1,pubL,pub,pubA,EV,wkZ,wk,Cr,FP,Bs,Cs,AOp.cls,Nat.beq_eq,Bool.or_eq_true,decide_true,decide_false,beq_self_eq_true,Bool.true_or,Bool.or_true,true_and,and_true,lenA,eqv,eqB,eqP,scal,BR,List.getElem?_cons_zero,List.getElem?_cons_succ,Lo,Lp,Jh,updM,Pt,Pu,Pv,Int.reduceEq,ret1,La,FX,reduceCtorEq,Bool.xor_true,Bool.xor_false,Bool.false_eq_true,List.all_cons,List.all_nil,noTok,Bool.and_self,Bool.and_true,Bool.true_and,h0,h1,h5,List.length_map,Ap]
   refine L4 (fun hlt=>?_) (fun hge=>?_)
   · have hlt:i < L.length:=by omega
     have hlm:i < M.length:=by omega
     simp only [Fp,P2,P0,Ah,P3,Lx,Ly,Pz,Ae,Lz,Il,AH,Ir,P7,P8,P9,QA,Bool.not_true,Bool.not_false,L6,Iq,FY,Im,Io,KS_n,KS_x,KS_r,KB_n,KB_x,KB_r,Px,Py,P4,L5,KF_n,KF_r,KG_n,KG_r,KL_n,KL_x,KL_r,Ip,Gh,evOp,evX,X.ev,optX,Ft,Gf,Gi,P5,P6,Nat.reduceBEq,Nat.reduceAdd,Nat.reduceLT,Nat.reduceLeDiff,Nat.reduceEqDiff,reduceIte,if_true,if_false,Lb,Lc,Ld,Lf,Lg,Lh,Li,Lj,Lk,Ll,Lm,Ln,Am.unOp,ret1,pubL,pub,pubA,EV,wkZ,wk,Cr,FP,Bs,Cs,AOp.cls,Nat.beq_eq,Bool.or_eq_true,decide_true,decide_false,beq_self_eq_true,Bool.true_or,Bool.or_true,true_and,and_true,lenA,eqv,eqB,eqP,scal,BR,List.getElem?_cons_zero,List.getElem?_cons_succ,Lo,Lp,Jh,updM,Pt,Pu,Pv,Int.reduceEq,ret1,La,FX,reduceCtorEq,Bool.xor_true,Bool.xor_false,Bool.false_eq_true,List.all_cons,List.all_nil,noTok,Bool.and_self,Bool.and_true,Bool.true_and,h0,h1,h5,List.length_map,Ap,AI,Wu hlt,Wu hlm,Ff,Dy,A9 (show i+1 < 2^63 by omega)]
     refine L4 (fun hne=>AU (Over.enter s) rfl ?_) (fun he=>⟨n - 1,by omega,i+1,by omega,rfl,?_⟩)
     · have:¬ M.take L.length=L:=fun hh=>hne (Yi hh hlt hlm)
       simp [Bs,wkZ,wk,undP,this]
     · exact Ue hp hlt hlm (by simpa using he)
   · refine AU (Over.enter s) rfl ?_
     have hi':i=L.length:=by omega
     subst hi'
     rw [List.take_length] at hp
     simp [Bs,wkZ,wk,undP,← hp]
 · simp only [Fp,P2,P0,Ah,P3,Lx,Ly,Pz,Ae,Lz,Il,AH,Ir,P7,P8,P9,QA,Bool.not_true,Bool.not_false,L6,Iq,FY,Im,Io,KS_n,KS_x,KS_r,KB_n,KB_x,KB_r,Px,Py,P4,L5,KF_n,KF_r,KG_n,KG_r,KL_n,KL_x,KL_r,Ip,Gh,evOp,evX,X.ev,optX,Ft,Gf,Gi,P5,P6,Nat.reduceBEq,Nat.reduceAdd,Nat.reduceLT,Nat.reduceLeDiff,Nat.reduceEqDiff,reduceIte,if_true,if_false,Lb,Lc,Ld,Lf,Lg,Lh,Li,Lj,Lk,Ll,Lm,Ln,Am.unOp,ret1,pubL,pub,pubA,EV,wkZ,wk,Cr,FP,Bs,Cs,AOp.cls,Nat.beq_eq,Bool.or_eq_true,decide_true,decide_false,beq_self_eq_true,Bool.true_or,Bool.or_true,true_and,and_true,lenA,eqv,eqB,eqP,scal,BR,List.getElem?_cons_zero,List.getElem?_cons_succ,Lo,Lp,Jh,updM,Pt,Pu,Pv,Int.reduceEq,ret1,La,FX,reduceCtorEq,Bool.xor_true,Bool.xor_false,Bool.false_eq_true,List.all_cons,List.all_nil,noTok,Bool.and_self,Bool.and_true,Bool.true_and]
   exact ⟨0,by omega,rfl,by simp⟩
def SH (L M:List (List Nat)):Bool:=decide (L=M)
theorem WR {L M:List (List Nat)} (h:L.length=M.length):undP L M=SH L M:=by
 unfold undP SH
 rw [h,List.take_length]
 by_cases hh:L=M
 · subst hh; simp
 · rw [decide_eq_false hh,decide_eq_false fun h=>hh h.symm]
theorem Yj {a b:Nat} (h:a=b):((a:Int)=(b:Int))=True:=by simp [h]
theorem Yk {a b:Nat} (h:a≠b):((a:Int)=(b:Int))=False:=by simp; omega
theorem beq_ft:(false==true)=false:=rfl
theorem QV (L M:List (List Nat)) (hL:L.length < 2^62) (s:St):(lim prog).call DW [tx L,tx M] s=some (.b (SH L M),s):=by
 refine fn_W HA rfl rfl ?_
 by_cases h:L.length=M.length
 · simp only [B9,Fp,P2,P0,Ah,P3,Lx,Ly,Pz,Ae,Lz,Il,AH,Ir,P7,P8,P9,QA,Bool.not_true,Bool.not_false,L6,Iq,FY,Im,Io,KS_n,KS_x,KS_r,KB_n,KB_x,KB_r,Px,Py,P4,L5,KF_n,KF_r,KG_n,KG_r,KL_n,KL_x,KL_r,Ip,Gh,evOp,evX,X.ev,optX,Ft,Gf,Gi,P5,P6,Nat.reduceBEq,Nat.reduceAdd,Nat.reduceLT,Nat.reduceLeDiff,Nat.reduceEqDiff,reduceIte,if_true,if_false,Lb,Lc,Ld,Lf,Lg,Lh,Li,Lj,Lk,Ll,Lm,Ln,Am.unOp,ret1,pubL,pub,pubA,EV,wkZ,wk,Cr,FP,Bs,Cs,AOp.cls,Nat.beq_eq,Bool.or_eq_true,decide_true,decide_false,beq_self_eq_true,Bool.true_or,Bool.or_true,true_and,and_true,lenA,eqv,eqB,eqP,scal,BR,List.getElem?_cons_zero,List.getElem?_cons_succ,Lo,Lp,Jh,updM,Pt,Pu,Pv,Int.reduceEq,ret1,La,FX,reduceCtorEq,Bool.xor_true,Bool.xor_false,Bool.false_eq_true,List.all_cons,List.all_nil,noTok,Bool.and_self,Bool.and_true,Bool.true_and,List.length_map,Ap,KV L M hL,Yj h]
   exact AU (Over.enter s) rfl (by simp [Bs,wkZ,wk,WR h])
 · simp only [B9,Fp,P2,P0,Ah,P3,Lx,Ly,Pz,Ae,Lz,Il,AH,Ir,P7,P8,P9,QA,Bool.not_true,Bool.not_false,L6,Iq,FY,Im,Io,KS_n,KS_x,KS_r,KB_n,KB_x,KB_r,Px,Py,P4,L5,KF_n,KF_r,KG_n,KG_r,KL_n,KL_x,KL_r,Ip,Gh,evOp,evX,X.ev,optX,Ft,Gf,Gi,P5,P6,Nat.reduceBEq,Nat.reduceAdd,Nat.reduceLT,Nat.reduceLeDiff,Nat.reduceEqDiff,reduceIte,if_true,if_false,Lb,Lc,Ld,Lf,Lg,Lh,Li,Lj,Lk,Ll,Lm,Ln,Am.unOp,ret1,pubL,pub,pubA,EV,wkZ,wk,Cr,FP,Bs,Cs,AOp.cls,Nat.beq_eq,Bool.or_eq_true,decide_true,decide_false,beq_self_eq_true,Bool.true_or,Bool.or_true,true_and,and_true,lenA,eqv,eqB,eqP,scal,BR,List.getElem?_cons_zero,List.getElem?_cons_succ,Lo,Lp,Jh,updM,Pt,Pu,Pv,Int.reduceEq,ret1,La,FX,reduceCtorEq,Bool.xor_true,Bool.xor_false,Bool.false_eq_true,List.all_cons,List.all_nil,noTok,Bool.and_self,Bool.and_true,Bool.true_and,List.length_map,Ap,KV L M hL,Yk h,beq_ft]
   refine AU (Over.enter s) rfl ?_
   have:¬ L=M:=fun hh=>h (by rw [hh])
   simp [Bs,wkZ,wk,SH,this]

inductive ND where
 | mk (k:Nat) (t:List Nat) (ns:List (List Nat)) (ks:List ND)
def ND.kind:ND→Nat | .mk k _ _ _=>k
def ND.text:ND→List Nat | .mk _ t _ _=>t
def ND.names:ND→List (List Nat) | .mk _ _ ns _=>ns
def ND.kids:ND→List ND | .mk _ _ _ ks=>ks
mutual
def ND.av:ND→AV
 | .mk k t ns ks=>.agg [.i .u8 (k:Nat),.s t,tx ns,.ws false 4 (ND.avs ks)]
def ND.avs:List ND→List AV
 | []=>[]
 | n::l=>n.av::ND.avs l
end
def ND.cells (n:ND):List AV:=[.i .u8 (n.kind:Nat),.s n.text,tx n.names,.ws false 4 (n.kids.map ND.av)]
theorem ND.lt {n k:ND} (h:k∈n.kids):SizeOf.sizeOf k < SizeOf.sizeOf n:=by
 cases n with
 | mk a t ns ks =>
   have h:k∈ks:=h
   have:=List.sizeOf_lt_of_mem h
   simp only [ND.mk.sizeOf_spec]
   omega



/-! ### A byte in a text -/
theorem Uf {a c:Nat} (h:¬ a=c):Nat.beq a c=false:=Bool.eq_false_iff.2 (by rw [Ne,Nat.beq_eq]; exact h)
theorem Rb {c:Nat}:∀ {l:List Nat} {n:Nat},idxB c n l < 0↔c∉l
 | [],n=>by simp [idxB]
 | a :: l,n=>by
   simp only [idxB]
   by_cases h:a=c
   · subst h
     simp [Nat.beq_eq]
   · have hb:Nat.beq a c=false:=Uf h
     rw [hb,cond_false,Rb]
     simp; omega
theorem PN {c:Nat}:∀ {l:List Nat} {n:Nat},c∉l→idxB c n l = -1
 | [],n,_=>rfl
 | a::l,n,h=>by
   simp only [List.mem_cons,not_or] at h
   have hb:Nat.beq a c=false:=Uf (Ne.symm h.1)
   simp only [idxB]
   rw [hb,cond_false,PN h.2]
theorem ext0 (s:St) (l:List Nat) (c:Nat) (hc:c < 256):extA s 0 [.s l,.i .u8 (c:Int)]=some (.i .i64 (idxB c 0 l),s):=by
 have h:((IntKind.u8=IntKind.u8)∧(0:Int)≤(c:Int)∧(c:Int) < 256):=⟨rfl,by omega,by omega⟩
 show (if _ then _ else _)=_
 rw [if_pos h]
 simp
theorem OD (l:List Nat) (c:Nat) (hc:c < 256) (s:St):(lim prog).call B6 [.s l,.i .u8 (c:Int)] s=some (.i .i64 (idxB c 0 l),s):=by
 refine fn_W EY rfl rfl ?_
 simp only [A8,go_sem,Ah,AH,AJ,AK,Ae,KB_n,KB_x,Nat.reduceBEq,Nat.reduceAdd,Nat.reduceLT,Nat.reduceLeDiff,Nat.reduceEqDiff,reduceIte,Int.reduceEq,reduceCtorEq,ext0 _ l c hc]
 exact AU (Over.enter s) rfl rfl
theorem Hm (l:List Nat) (c:Nat) (hc:c < 256) (s:St):(lim prog).call DJ [.s l,.i .u8 (c:Int)] s=some (.i .i64 (idxB c 0 l),s):=by
 refine fn_W It rfl rfl ?_
 simp only [Cm,go_sem,Ah,AH,AJ,AK,Ae,KB_n,KB_x,Nat.reduceBEq,Nat.reduceAdd,Nat.reduceLT,Nat.reduceLeDiff,Nat.reduceEqDiff,reduceIte,Int.reduceEq,reduceCtorEq,OD l c hc]
 exact AU (Over.enter s) rfl rfl
theorem PO:Cq (.i .i64 0)=some 0:=rfl

theorem u8N {n:Nat} (h:n < 256):(UInt8.ofNat n).toNat=n:=by simp [UInt8.toNat_ofNat']; omega
theorem Ug {r:Int} (h0:128≤r) (hv:Utf8.valid r=true):(∃ a b,encN r=[a,b]∧128≤b∧b < 256)∨(∃ a b c,encN r=[a,b,c]∧128≤c∧c < 256)∨∃ a b c d,encN r=[a,b,c,d]:=by
 have hr:r≤1114111:=by
  simp only [Utf8.valid,Bool.or_eq_true,Bool.and_eq_true,decide_eq_true_eq] at hv
  omega
 obtain ⟨n,rfl⟩:∃ n:Nat,r=n:=⟨r.toNat,by omega⟩
 simp only [encN,Utf8.encode,hv,if_true,Int.toNat_natCast]
 by_cases h1:n < 128
 · omega
 rw [if_neg h1]
 by_cases h2:n < 2048
 · rw [if_pos h2]
   exact .inl ⟨_,_,rfl,by show 128≤(UInt8.ofNat _).toNat; rw [u8N (by omega)]; omega,by show (UInt8.ofNat _).toNat < 256; rw [u8N (by omega)]; omega⟩
 rw [if_neg h2]
 by_cases h3:n < 65536
 · rw [if_pos h3]
   exact .inr (.inl ⟨_,_,_,rfl,by show 128≤(UInt8.ofNat _).toNat; rw [u8N (by omega)]; omega,by show (UInt8.ofNat _).toNat < 256; rw [u8N (by omega)]; omega⟩)
 rw [if_neg h3]
 exact .inr (.inr ⟨_,_,_,_,rfl⟩)
theorem PP (r:Int) (s:St):(lim prog).call DB [.i .i32 r] s=some (.b (Utf8.valid r),s):=by
 refine fn_W GI rfl rfl ?_
 simp only [Br,go_sem,Ah,AH,AJ,AK,Ae,KB_n,KB_x,Nat.reduceBEq,Nat.reduceAdd,Nat.reduceLT,Nat.reduceLeDiff,Nat.reduceEqDiff,reduceIte,Int.reduceEq,reduceCtorEq]
 by_cases h0:0≤r
 · by_cases h1:r < 55296
   · simp only [go_sem,Ah,AH,AJ,AK,Ae,KB_n,KB_x,Nat.reduceBEq,Nat.reduceAdd,Nat.reduceLT,Nat.reduceLeDiff,Nat.reduceEqDiff,reduceIte,Int.reduceEq,reduceCtorEq,h0,h1]
     exact AU (Over.enter s) rfl (by simp [Bs,wkZ,wk,Utf8.valid,h0,h1])
   · by_cases h2:57343 < r
     · by_cases h3:r≤1114111
       · simp only [go_sem,Ah,AH,AJ,AK,Ae,KB_n,KB_x,Nat.reduceBEq,Nat.reduceAdd,Nat.reduceLT,Nat.reduceLeDiff,Nat.reduceEqDiff,reduceIte,Int.reduceEq,reduceCtorEq,h0,h1,h2,h3]
         refine AU (Over.enter s) rfl ?_
         have h4:57344≤r:=by omega
         simp [Bs,wkZ,wk,Utf8.valid,h3,h4]
       · simp only [go_sem,Ah,AH,AJ,AK,Ae,KB_n,KB_x,Nat.reduceBEq,Nat.reduceAdd,Nat.reduceLT,Nat.reduceLeDiff,Nat.reduceEqDiff,reduceIte,Int.reduceEq,reduceCtorEq,h0,h1,h2,h3]
         refine AU (Over.enter s) rfl ?_
         simp [Bs,wkZ,wk,Utf8.valid,h1,h3]
     · simp only [go_sem,Ah,AH,AJ,AK,Ae,KB_n,KB_x,Nat.reduceBEq,Nat.reduceAdd,Nat.reduceLT,Nat.reduceLeDiff,Nat.reduceEqDiff,reduceIte,Int.reduceEq,reduceCtorEq,h0,h1,h2]
       refine AU (Over.enter s) rfl ?_
       have h4:¬ 57344≤r:=by omega
       simp [Bs,wkZ,wk,Utf8.valid,h1,h4]
 · have h2:¬ 57343 < r:=by omega
   simp only [go_sem,Ah,AH,AJ,AK,Ae,KB_n,KB_x,Nat.reduceBEq,Nat.reduceAdd,Nat.reduceLT,Nat.reduceLeDiff,Nat.reduceEqDiff,reduceIte,Int.reduceEq,reduceCtorEq,h0,h2]
   refine AU (Over.enter s) rfl ?_
   have h4:¬ 57344≤r:=by omega
   simp [Bs,wkZ,wk,Utf8.valid,h0,h4]
abbrev K3:List Nat:=[47,0,10]
def PQ (r:Int):Int:=if r < 128 then idxB r.toNat 0 K3 else -1
theorem Hn (i:Nat):Cq (.i .i64 (i:Int))=some i:=AI _ i
theorem Wv:Cq (.i .i64 1)=some 1:=rfl
theorem Ww:Cq (.i .i64 2)=some 2:=rfl
theorem w1:IntKind.i64.wrap (2 - 1)=1:=rfl
theorem w2:IntKind.i64.wrap (3 - 1)=2:=rfl
theorem w3:IntKind.i64.wrap (4 - 1)=3:=rfl
theorem w4:IntKind.i64.wrap (1+1)=2:=rfl
theorem w5:IntKind.i64.wrap (2+1)=3:=rfl
theorem bnd2:CS 3 (some (.i .i64 2)) none=some (2,3):=rfl
theorem bnd3:CS 3 (some (.i .i64 3)) none=some (3,3):=rfl
theorem KX (r:Int) (h0:0≤r) (h1:r≤2147483647) (s:St):(lim prog).call CD [.s K3,.i .i32 r] s=some (.i .i64 (PQ r),s):=by
 refine fn_W Iv rfl rfl ?_
 have h0':((0:Int)≤r)=True:=by simp [h0]
 by_cases hr:r < 128
 · have hr':(r < 128)=True:=by simp [hr]
   obtain ⟨n,rfl⟩:∃ n:Nat,r=n:=⟨r.toNat,by omega⟩
   have hw:IntKind.u8.wrap (n:Int)=(n:Int):=by
    have e:(n:Int) % 2^8=n:=by omega
    simp only [IntKind.wrap,IntKind.signed,IntKind.bits,e]
    rfl
   simp only [A7,go_sem,Ah,AH,AJ,AK,Ae,KB_n,KB_x,Nat.reduceBEq,Nat.reduceAdd,Nat.reduceLT,Nat.reduceLeDiff,Nat.reduceEqDiff,reduceIte,Int.reduceEq,reduceCtorEq,h0',hr',hw,Hm K3 n (by omega)]
   exact AU (Over.enter s) rfl (by simp [Bs,wkZ,wk,PQ,hr])
 · have hr':(r < 128)=False:=by simp [hr]
   have hP:PQ r = -1:=by unfold PQ; rw [if_neg hr]
   by_cases he:r=65533
   · have he':(r=65533)=True:=by simp [he]
     simp only [A7,go_sem,Ah,AH,AJ,AK,Ae,KB_n,KB_x,Nat.reduceBEq,Nat.reduceAdd,Nat.reduceLT,Nat.reduceLeDiff,Nat.reduceEqDiff,reduceIte,Int.reduceEq,reduceCtorEq,h0',hr',he']
     refine CH (fun n e q=>∃ p:Nat,p+n=3∧q=s.enter.new (.siter K3 p)∧e.get 175=.p s.enter.nb 0) ?_ 3 _ _ ?_
     · rintro n e q ⟨p,hp,rfl,g⟩
       have hs:∀ p',(s.enter.new (.siter K3 p)).setBox s.enter.nb (.siter K3 p')=s.enter.new (.siter K3 p'):=fun p'=>FX _ _ _
       have h47:((Int.ofNat 47:Int)=65533)=False:=by simp
       have h00:((Int.ofNat 0:Int)=65533)=False:=by simp
       have h10:((Int.ofNat 10:Int)=65533)=False:=by simp
       have l3:([47,0,10]:List Nat)[3]? = none:=rfl
       have a1:(47 < 128)=True:=by simp
       have a2:(0 < 128)=True:=by simp
       have a3:(10 < 128)=True:=by simp
       have hov:=((Over.enter s).new (.siter K3 3))
       have:p=0∨p=1∨p=2∨p=3:=by omega
       rcases this with rfl | rfl | rfl | rfl
       · simp only [go_sem,Ah,AH,AJ,AK,Ae,KB_n,KB_x,Nat.reduceBEq,Nat.reduceAdd,Nat.reduceLT,Nat.reduceLeDiff,Nat.reduceEqDiff,reduceIte,Int.reduceEq,reduceCtorEq,g,a1,a2,a3,h47,h00,h10,hs]
         exact ⟨n - 1,by omega,1,by omega,rfl⟩
       · simp only [go_sem,Ah,AH,AJ,AK,Ae,KB_n,KB_x,Nat.reduceBEq,Nat.reduceAdd,Nat.reduceLT,Nat.reduceLeDiff,Nat.reduceEqDiff,reduceIte,Int.reduceEq,reduceCtorEq,g,a1,a2,a3,h47,h00,h10,hs]
         exact ⟨n - 1,by omega,2,by omega,rfl⟩
       · simp only [go_sem,Ah,AH,AJ,AK,Ae,KB_n,KB_x,Nat.reduceBEq,Nat.reduceAdd,Nat.reduceLT,Nat.reduceLeDiff,Nat.reduceEqDiff,reduceIte,Int.reduceEq,reduceCtorEq,g,a1,a2,a3,h47,h00,h10,hs]
         exact ⟨n - 1,by omega,3,by omega,rfl⟩
       · simp only [go_sem,Ah,AH,AJ,AK,Ae,KB_n,KB_x,Nat.reduceBEq,Nat.reduceAdd,Nat.reduceLT,Nat.reduceLeDiff,Nat.reduceEqDiff,reduceIte,Int.reduceEq,reduceCtorEq,g,l3]
         exact AU hov rfl (by rw [hP]; rfl)
     · simp only [go_sem,Ah,AH,AJ,AK,Ae,KB_n,KB_x,Nat.reduceBEq,Nat.reduceAdd,Nat.reduceLT,Nat.reduceLeDiff,Nat.reduceEqDiff,reduceIte,Int.reduceEq,reduceCtorEq]
       exact ⟨0,by omega,rfl⟩
   · have he':(r=65533)=False:=by simp [he]
     have hv:=PP r
     cases hvr:Utf8.valid r with
     | false =>
       rw [hvr] at hv
       simp only [A7,go_sem,Ah,AH,AJ,AK,Ae,KB_n,KB_x,Nat.reduceBEq,Nat.reduceAdd,Nat.reduceLT,Nat.reduceLeDiff,Nat.reduceEqDiff,reduceIte,Int.reduceEq,reduceCtorEq,h0',hr',he',hv]
       exact AU (Over.enter s) rfl (by rw [hP]; rfl)
     | true =>
       rw [hvr] at hv
       have hl3:List.length K3=3:=rfl
       rcases Ug (show 128≤r by omega) hvr with ⟨a,b,h2,hb1,hb2⟩ | ⟨a,b,c,h2,hb1,hb2⟩ | ⟨a,b,c,d,h2⟩
       · simp only [A7,go_sem,Ah,AH,AJ,AK,Ae,KB_n,KB_x,Nat.reduceBEq,Nat.reduceAdd,Nat.reduceLT,Nat.reduceLeDiff,Nat.reduceEqDiff,reduceIte,Int.reduceEq,reduceCtorEq,h0',hr',he',hv,h2]
         refine CH (fun n e q=>q=s.enter∧e.get 0=.s K3∧e.get 7=.s [a,b]∧e.get 8=.i .i64 1∧e.get 9=.i .i64 1) ?_ 0 _ _ ?_
         · rintro n e q ⟨rfl,g0,g7,g8,g9⟩
           have c1:((1:Int) < 3)=True:=by simp
           have c2:((0:Int)≠(b:Int))=True:=by simp; omega
           have hix:=Hm [10] b hb2 s.enter
           have hmiss:idxB b 0 [10] = -1:=PN (by simp; omega)
           rw [hmiss] at hix
           have hd:((([47,0,10]:List Nat).drop 2).take (3 - 2))=[10]:=rfl
           have hm1:((-1:Int) < 0)=True:=by simp
           simp only [go_sem,Ah,AH,AJ,AK,Ae,KB_n,KB_x,Nat.reduceBEq,Nat.reduceAdd,Nat.reduceLT,Nat.reduceLeDiff,Nat.reduceEqDiff,reduceIte,Int.reduceEq,reduceCtorEq,g0,g7,g8,g9,List.length_cons,List.length_nil,Ap,Int.cast_ofNat_Int,c1,Wv,c2,w4,bnd2,hd,hix,hm1]
           exact AU (Over.enter s) rfl (by rw [hP]; rfl)
         · simp only [go_sem,Ah,AH,AJ,AK,Ae,KB_n,KB_x,Nat.reduceBEq,Nat.reduceAdd,Nat.reduceLT,Nat.reduceLeDiff,Nat.reduceEqDiff,reduceIte,Int.reduceEq,reduceCtorEq,w1,List.length_cons,List.length_nil,Ap,Int.cast_ofNat_Int,and_self]
       · simp only [A7,go_sem,Ah,AH,AJ,AK,Ae,KB_n,KB_x,Nat.reduceBEq,Nat.reduceAdd,Nat.reduceLT,Nat.reduceLeDiff,Nat.reduceEqDiff,reduceIte,Int.reduceEq,reduceCtorEq,h0',hr',he',hv,h2]
         refine CH (fun n e q=>q=s.enter∧e.get 0=.s K3∧e.get 7=.s [a,b,c]∧e.get 8=.i .i64 2∧e.get 9=.i .i64 2) ?_ 0 _ _ ?_
         · rintro n e q ⟨rfl,g0,g7,g8,g9⟩
           have c1:((2:Int) < 3)=True:=by simp
           have c2:((10:Int)≠(c:Int))=True:=by simp; omega
           have hix:=Hm [] c hb2 s.enter
           have hmiss:idxB c 0 [] = -1:=rfl
           rw [hmiss] at hix
           have hd:((([47,0,10]:List Nat).drop 3).take (3 - 3))=[]:=rfl
           have hm1:((-1:Int) < 0)=True:=by simp
           simp only [go_sem,Ah,AH,AJ,AK,Ae,KB_n,KB_x,Nat.reduceBEq,Nat.reduceAdd,Nat.reduceLT,Nat.reduceLeDiff,Nat.reduceEqDiff,reduceIte,Int.reduceEq,reduceCtorEq,g0,g7,g8,g9,List.length_cons,List.length_nil,Ap,Int.cast_ofNat_Int,c1,Ww,c2,w5,bnd3,hd,hix,hm1]
           exact AU (Over.enter s) rfl (by rw [hP]; rfl)
         · simp only [go_sem,Ah,AH,AJ,AK,Ae,KB_n,KB_x,Nat.reduceBEq,Nat.reduceAdd,Nat.reduceLT,Nat.reduceLeDiff,Nat.reduceEqDiff,reduceIte,Int.reduceEq,reduceCtorEq,w2,List.length_cons,List.length_nil,Ap,Int.cast_ofNat_Int,and_self]
       · simp only [A7,go_sem,Ah,AH,AJ,AK,Ae,KB_n,KB_x,Nat.reduceBEq,Nat.reduceAdd,Nat.reduceLT,Nat.reduceLeDiff,Nat.reduceEqDiff,reduceIte,Int.reduceEq,reduceCtorEq,h0',hr',he',hv,h2]
         refine CH (fun n e q=>q=s.enter∧e.get 0=.s K3∧e.get 9=.i .i64 3) ?_ 0 _ _ ?_
         · rintro n e q ⟨rfl,g0,g9⟩
           have c1:((3:Int) < 3)=False:=by simp
           simp only [go_sem,Ah,AH,AJ,AK,Ae,KB_n,KB_x,Nat.reduceBEq,Nat.reduceAdd,Nat.reduceLT,Nat.reduceLeDiff,Nat.reduceEqDiff,reduceIte,Int.reduceEq,reduceCtorEq,g0,g9,List.length_cons,List.length_nil,Ap,Int.cast_ofNat_Int,c1]
           exact AU (Over.enter s) rfl (by rw [hP]; rfl)
         · simp only [go_sem,Ah,AH,AJ,AK,Ae,KB_n,KB_x,Nat.reduceBEq,Nat.reduceAdd,Nat.reduceLT,Nat.reduceLeDiff,Nat.reduceEqDiff,reduceIte,Int.reduceEq,reduceCtorEq,w3,List.length_cons,List.length_nil,Ap,Int.cast_ofNat_Int,and_self]

abbrev bs (B:List Bool):List AV:=B.map AV.b
section
variable {s:St} {id T n:Nat}
theorem Uh (s:St):∀ B:List Bool,pubL s (bs B)=some (bs B,s)
 | []=>rfl
 | b::B=>by
   simp only [bs,List.map_cons,pubL,TU]
   rw [Uh s B]
theorem Ui (s:St):∀ B:List Bool,frzL s (bs B)=some (bs B,s)
 | []=>rfl
 | b::B=>by
   simp only [bs,List.map_cons,frzL,frz,TU]
   rw [Ui s B]
theorem Uj:∀ B:List Bool,ones (bs B)=true
 | []=>rfl
 | b::B=>by
   simp only [bs,List.map_cons,ones]
   exact Uj B
theorem QW:∀ B:List Bool,AV.refs.go (bs B)=false
 | []=>rfl
 | b::B=>by
   simp only [bs,List.map_cons,AV.refs.go,AV.refs,Bool.false_or]
   exact QW B
theorem bs_wk:∀ (n:Nat) (B:List Bool),wkZ (List.replicate n .id) (bs B)=bs B
 | 0,B=>by simp [wkZ]
 | n+1,[]=>by simp [wkZ]
 | n+1,b::B=>by
   have:=bs_wk n B
   simp only [bs,List.map_cons,List.replicate_succ,wkZ,wk] at this ⊢
   rw [this]
theorem bs_ld {B:List Bool} (h:s.box? id=some (.cells T (bs B))) (hn:B.length=n):ldA s true n (.p id 0)=some (.agg (bs B)):=by
 have:cut (bs B) 0 n=some (bs B):=by
  have e:(bs B).take n=bs B:=List.take_of_length_le (by simp; omega)
  have e2:(bs B).length=n:=by simpa using hn
  simp only [cut,List.drop_zero,e,e2,if_true]
 simp only [ldA,St.cells?,h,this,scal]
theorem bs_ld1 {B:List Bool} {i:Nat} {b:Bool} (h:s.box? id=some (.cells T (bs B))) (hi:B[i]? = some b):ldA s false 1 (.p id i)=some (.b b):=by
 exact JM h (by simp [hi])
theorem bs_st {B B':List Bool} (h:s.box? id=some (.cells T (bs B'))) (hn:B.length=n) (hn':B'.length=n):stA s n (.p id 0) (.agg (bs B))=some (s.setBox id (.cells T (bs B))):=by
 have h1:(AV.agg (bs B)).cells=bs B:=rfl
 have h2:(bs B).length=n:=by simpa using hn
 have h3:over (bs B') 0 (bs B)=some (bs B):=by
  unfold over
  rw [if_pos (by simp; omega)]
  simp [hn,hn']
 simp only [stA,h,h1,h2,Uj,and_self,if_true,h3,esc]
 have h4:(AV.agg (bs B)).refs=false:=by simp only [AV.refs]; exact QW B
 rw [h4]
 rfl
theorem Uk {B:List Bool} {i:Nat} (h:s.box? id=some (.cells T (bs B))) (hi:i < B.length):stA s 1 (.p id i) (.b true)=some (s.setBox id (.cells T (bs (B.set i true)))):=by
 rw [TX h rfl rfl (by simpa using hi)]
 have:(bs B).set i (.b true)=bs (B.set i true):=by simp [bs,List.map_set]
 rw [this]
 rfl
end
def F256:List Bool:=List.replicate 256 false
abbrev Z256:List AV:=bs F256
def B3:List Bool:=((F256.set 47 true).set 0 true).set 10 true
theorem len0:F256.length=256:=by simp [F256]
theorem len1':(F256.set 47 true).length=256:=by simp [F256]
theorem len2':((F256.set 47 true).set 0 true).length=256:=by simp [F256]
theorem Ul:B3.length=256:=by simp [B3,F256]
theorem b3_all:((List.range 256).all fun c=>B3[c]? == some (decide (c∈K3)))=true:=by kernel_rfl
theorem b3_get {c:Nat} (h:c < 256):B3[c]? = some (decide (c∈K3)):=by
 have:=List.all_eq_true.1 b3_all c (by simpa using h)
 simpa using this
theorem Yl:BU.body =
 (.seq (.reg [⟨(some 2),.alloc 130 Z256,none⟩,
  ⟨(some 3),.mv (.c (.b false)),none⟩])
 (.seq (.seq (.reg [⟨(some 4),.mv (.c (.i .i64 0)),none⟩])
 (.blk 0 (.loop (.seq (.seq (.reg [⟨(some 6),.mv (.t 4),none⟩,
     ⟨(some 7),.mv (.t 0),none⟩,
     ⟨(some 8),.len 0 (.t 7),none⟩,
     ⟨(some 9),.bin .lss (.t 6) (.t 8),none⟩])
  (.cond (.t 9)
   .skip
   (.exit 0)))
  (.seq (.blk 1 (.seq (.reg [⟨(some 12),.mv (.t 0),none⟩,
     ⟨(some 13),.mv (.t 4),none⟩,
     ⟨(some 14),.ixS (.t 12) (.t 13),none⟩,
     ⟨(some 5),.mv (.t 14),none⟩])
   (.seq (.seq (.reg [⟨(some 15),.mv (.t 5),none⟩,
    ⟨(some 16),.bin .geq (.t 15) (.c (.i .u8 128)),none⟩])
   (.cond (.t 16)
    (.seq (.reg [⟨(some 17),.ld true 256 (.t 2),none⟩,
     ⟨none,.st 256 (.t 2) (.t 17),none⟩,
     ⟨(some 3),.mv (.c (.b false)),none⟩])
    .ret)
    .skip))
   (.reg [⟨(some 18),.mv (.t 5),none⟩,
    ⟨(some 19),.iaA 256 1 (.t 2) (.t 18),none⟩,
    ⟨none,.st 1 (.t 19) (.c (.b true)),none⟩]))))
  (.reg [⟨(some 10),.mv (.t 4),none⟩,
   ⟨(some 11),.bin .add (.t 10) (.c (.i .i64 1)),none⟩,
   ⟨(some 4),.mv (.t 11),none⟩]))))))
 (.seq (.reg [⟨(some 20),.ld true 256 (.t 2),none⟩,
  ⟨none,.st 256 (.t 2) (.t 20),none⟩,
  ⟨(some 3),.mv (.c (.b true)),none⟩])
 .ret))):=by rfl
theorem Ym:Bi.body =
 (.seq (.reg [⟨(some 4),.mv (.c (.i .i64 0)),none⟩])
 (.seq (.seq (.reg [⟨(some 11),.mv (.t 1),none⟩,
  ⟨(some 12),.bin .eql (.t 11) (.c (.s [])),none⟩])
 (.cond (.t 12)
  (.seq (.reg [⟨(some 4),.mv (.c (.i .i64 (-1))),none⟩])
  .ret)
  .skip))
 (.seq (.seq (.reg [⟨(some 13),.mv (.t 1),none⟩,
  ⟨(some 14),.len 0 (.t 13),none⟩,
  ⟨(some 15),.bin .eql (.t 14) (.c (.i .i64 1)),none⟩])
 (.cond (.t 15)
  (.seq (.reg [⟨(some 16),.mv (.t 1),none⟩,
   ⟨(some 17),.ixS (.t 16) (.c (.i .i64 0)),none⟩,
   ⟨(some 18),.cvI .i32 (.t 17),none⟩,
   ⟨(some 5),.mv (.t 18),none⟩])
  (.seq (.seq (.reg [⟨(some 19),.mv (.t 5),none⟩,
   ⟨(some 20),.bin .geq (.t 19) (.c (.i .i32 128)),none⟩])
  (.cond (.t 20)
   (.reg [⟨(some 5),.mv (.c (.i .i32 65533)),none⟩])
   .skip))
  (.seq (.reg [⟨(some 21),.mv (.t 0),none⟩,
   ⟨(some 22),.mv (.t 5),none⟩,
   ⟨(some 23),.call CD [(.t 21),(.t 22)],none⟩,
   ⟨(some 4),.mv (.t 23),none⟩])
  .ret)))
  .skip))
 (.seq (.seq (.reg [⟨(some 24),.mv (.t 0),none⟩,
  ⟨(some 25),.len 0 (.t 24),none⟩,
  ⟨(some 26),.call Bz [(.t 25)],none⟩])
 (.cond (.t 26)
  (.seq (.reg [⟨(some 28),.mv (.t 1),none⟩,
   ⟨(some 29),.call Cp [(.t 28)],none⟩,
   ⟨(some 27),.mv (.t 29),none⟩,
   ⟨(some 30),.ext (.t 27) 0,none⟩,
   ⟨(some 31),.ext (.t 27) 1,none⟩,
   ⟨(some 6),.alloc 130 Z256,none⟩,
   ⟨none,.st 256 (.t 6) (.t 30),none⟩,
   ⟨(some 7),.mv (.t 31),none⟩])
  (.seq (.reg [⟨(some 32),.mv (.t 7),none⟩])
  (.cond (.t 32)
   (.seq (.seq (.reg [⟨(some 8),.mv (.c (.i .i64 0)),none⟩])
   (.blk 0 (.loop (.seq (.seq (.reg [⟨(some 33),.mv (.t 8),none⟩,
       ⟨(some 34),.mv (.t 0),none⟩,
       ⟨(some 35),.len 0 (.t 34),none⟩,
       ⟨(some 36),.bin .lss (.t 33) (.t 35),none⟩])
    (.cond (.t 36)
     .skip
     (.exit 0)))
    (.seq (.blk 1 (.seq (.reg [⟨(some 39),.mv (.t 0),none⟩,
       ⟨(some 40),.mv (.t 8),none⟩,
       ⟨(some 41),.ixS (.t 39) (.t 40),none⟩,
       ⟨(some 42),.call B2 [(.t 6),(.t 41)],none⟩])
     (.cond (.t 42)
      (.seq (.reg [⟨(some 43),.mv (.t 8),none⟩,
       ⟨(some 4),.mv (.t 43),none⟩])
      .ret)
      .skip)))
    (.reg [⟨(some 37),.mv (.t 8),none⟩,
     ⟨(some 38),.bin .add (.t 37) (.c (.i .i64 1)),none⟩,
     ⟨(some 8),.mv (.t 38),none⟩]))))))
   (.seq (.reg [⟨(some 4),.mv (.c (.i .i64 (-1))),none⟩])
   .ret))
   .skip)))
  .skip))
 (.seq (.seq (.reg [⟨(some 44),.mv (.t 0),none⟩,
  ⟨(some 45),.siter (.t 44),none⟩])
 (.blk 2 (.loop (.seq (.reg [⟨(some 46),.snext (.t 45),none⟩,
     ⟨(some 47),.ext (.t 46) 0,none⟩])
  (.seq (.cond (.t 47)
   .skip
   (.exit 2))
  (.blk 3 (.seq (.reg [⟨(some 48),.ext (.t 46) 1,none⟩,
     ⟨(some 49),.ext (.t 46) 2,none⟩,
     ⟨(some 9),.mv (.t 48),none⟩,
     ⟨(some 10),.mv (.t 49),none⟩])
   (.seq (.reg [⟨(some 50),.mv (.t 1),none⟩,
    ⟨(some 51),.mv (.t 10),none⟩,
    ⟨(some 52),.call CD [(.t 50),(.t 51)],none⟩,
    ⟨(some 53),.bin .geq (.t 52) (.c (.i .i64 0)),none⟩])
   (.cond (.t 53)
    (.seq (.reg [⟨(some 54),.mv (.t 9),none⟩,
     ⟨(some 4),.mv (.t 54),none⟩])
    .ret)
    .skip)))))))))
 (.seq (.reg [⟨(some 4),.mv (.c (.i .i64 (-1))),none⟩])
 .ret)))))):=by rfl
theorem Yn:BU.cout=[.agg (List.replicate 256 .id),.id]:=by rfl
theorem WT (n:Nat):Cq (.i .u8 (n:Int))=some n:=AI _ n
theorem mk_ok (s:St) (hw:Wf s):(lim prog).call Cp [.s K3] s=some (.tup [.agg (bs B3),.b true],s):=by
 refine fn_W HH rfl rfl ?_
 rw [Yl,Yn]
 have hnb:s.enter.nb=s.nb:=rfl
 have hwx:∀ B,Wf (s.enter.new (.cells 130 (bs B))):=fun B=>hw.enter.new _
 have hset:∀ B B',(s.enter.new (.cells 130 (bs B))).setBox s.nb (.cells 130 (bs B'))=s.enter.new (.cells 130 (bs B')):=fun B B'=>FX s.enter _ _
 have hb:∀ B,(s.enter.new (.cells 130 (bs B))).box? s.nb=some (.cells 130 (bs B)):=fun B=>BR s.enter _
 have s1:=Uk (i:=47) (hb F256) (by rw [len0]; decide)
 have s2:=Uk (i:=0) (hb (F256.set 47 true)) (by rw [len1']; decide)
 have s3:=Uk (i:=10) (hb ((F256.set 47 true).set 0 true)) (by rw [len2']; decide)
 rw [hset] at s1 s2 s3
 have la:=bs_ld (hb B3) Ul
 have st:=bs_st (hb B3) Ul Ul
 rw [hset] at st
 have hres:BU.res=[(2,some (true,256)),(3,none)]:=rfl
 have hpl:=Uh (s.enter.new (.cells 130 (bs B3))) B3
 have hfl:=Ui (s.enter.new (.cells 130 (bs B3))) B3
 have ov:Over s (s.enter.new (.cells 130 (bs B3))):=(Over.enter s).new _
 rw [hres]
 simp only [go_sem,Ah,AH,AJ,AK,Ae,KB_n,KB_x,Nat.reduceBEq,Nat.reduceAdd,Nat.reduceLT,Nat.reduceLeDiff,Nat.reduceEqDiff,reduceIte,Int.reduceEq,reduceCtorEq,hnb]
 refine CH (fun n e q=>e.get 0=.s K3∧e.get 2=.p s.nb 0∧∃ p:Nat,p+n=3∧e.get 4=.i .i64 p∧q=s.enter.new (.cells 130 (bs ((K3.take p).foldl (fun B c=>B.set c true) F256)))) ?_ 3 _ _ ?_
 · rintro n e q ⟨g0,g2,p,hp,g4,rfl⟩
   have:p=0∨p=1∨p=2∨p=3:=by omega
   have hl:List.length K3=3:=rfl
   rcases this with rfl | rfl | rfl | rfl
   · have c1:((0:Int) < 3)=True:=by simp
     have c2:((128:Int)≤47)=False:=by simp
     have hn:Cq (.i .u8 47)=some 47:=rfl
     have hw1:IntKind.i64.wrap (0+1)=1:=rfl
     have hx:((K3.take 0).foldl (fun B c=>B.set c true) F256)=F256:=rfl
     have hc0:((0:Nat):Int)=0:=rfl
     rw [hx]
     simp only [go_sem,Ah,AH,AJ,AK,Ae,KB_n,KB_x,Nat.reduceBEq,Nat.reduceAdd,Nat.reduceLT,Nat.reduceLeDiff,Nat.reduceEqDiff,reduceIte,Int.reduceEq,reduceCtorEq,g0,g2,g4,List.length_cons,List.length_nil,Ap,Int.cast_ofNat_Int,hc0,c1,PO,c2,hn,Nat.mul_one,Nat.zero_add,s1,hw1]
     exact ⟨n - 1,by omega,1,by omega,rfl,rfl⟩
   · have c1:((1:Int) < 3)=True:=by simp
     have c2:((128:Int)≤0)=False:=by simp
     have hn:Cq (.i .u8 0)=some 0:=rfl
     have hx:((K3.take 1).foldl (fun B c=>B.set c true) F256)=F256.set 47 true:=rfl
     have hc0:((1:Nat):Int)=1:=rfl
     rw [hx]
     simp only [go_sem,Ah,AH,AJ,AK,Ae,KB_n,KB_x,Nat.reduceBEq,Nat.reduceAdd,Nat.reduceLT,Nat.reduceLeDiff,Nat.reduceEqDiff,reduceIte,Int.reduceEq,reduceCtorEq,g0,g2,g4,List.length_cons,List.length_nil,Ap,Int.cast_ofNat_Int,hc0,c1,Wv,c2,hn,Nat.mul_one,Nat.zero_add,s2,w4]
     exact ⟨n - 1,by omega,2,by omega,rfl,rfl⟩
   · have c1:((2:Int) < 3)=True:=by simp
     have c2:((128:Int)≤10)=False:=by simp
     have hn:Cq (.i .u8 10)=some 10:=rfl
     have hx:((K3.take 2).foldl (fun B c=>B.set c true) F256)=(F256.set 47 true).set 0 true:=rfl
     have hc0:((2:Nat):Int)=2:=rfl
     rw [hx]
     simp only [go_sem,Ah,AH,AJ,AK,Ae,KB_n,KB_x,Nat.reduceBEq,Nat.reduceAdd,Nat.reduceLT,Nat.reduceLeDiff,Nat.reduceEqDiff,reduceIte,Int.reduceEq,reduceCtorEq,g0,g2,g4,List.length_cons,List.length_nil,Ap,Int.cast_ofNat_Int,hc0,c1,Ww,c2,hn,Nat.mul_one,Nat.zero_add,s3,w5]
     exact ⟨n - 1,by omega,3,by omega,rfl,rfl⟩
   · have c1:((3:Int) < 3)=False:=by simp
     have hx:((K3.take 3).foldl (fun B c=>B.set c true) F256)=B3:=rfl
     have hc0:((3:Nat):Int)=3:=rfl
     rw [hx]
     simp only [go_sem,Ah,AH,AJ,AK,Ae,KB_n,KB_x,Nat.reduceBEq,Nat.reduceAdd,Nat.reduceLT,Nat.reduceLeDiff,Nat.reduceEqDiff,reduceIte,Int.reduceEq,reduceCtorEq,g0,g2,g4,List.length_cons,List.length_nil,Ap,Int.cast_ofNat_Int,hc0,c1,la,hpl,st,hfl,frz]
     refine AU ov ?_ ?_
     · simp [Bs,AV.refs,AV.refs.go,QW]
     · simp only [wkZ]
       have e1:wk (.agg (List.replicate 256 .id)) (.agg (bs B3))=.agg (bs B3):=by
        rw [wk,bs_wk]
       rw [e1]
       rfl
 · simp only [go_sem,Ah,AH,AJ,AK,Ae,KB_n,KB_x,Nat.reduceBEq,Nat.reduceAdd,Nat.reduceLT,Nat.reduceLeDiff,Nat.reduceEqDiff,reduceIte,Int.reduceEq,reduceCtorEq]
   exact ⟨rfl,0,by omega,rfl,rfl⟩
theorem QX {s:St} {id T:Nat} {B:List Bool} (h:s.box? id=some (.cells T (bs B))) {c:Nat} (hc:c < 256) {b:Bool} (hb:B[c]? = some b):(lim prog).call B2 [.p id 0,.i .u8 (c:Int)] s=some (.b b,s):=by
 refine fn_W Fb rfl rfl ?_
 have hl:ldA s.enter false 1 (.p id c)=some (.b b):=bs_ld1 (s:=s.enter) h hb
 have hlt:(c < 256)=True:=by simp [hc]
 simp only [Bb,go_sem,Ah,AH,AJ,AK,Ae,KB_n,KB_x,Nat.reduceBEq,Nat.reduceAdd,Nat.reduceLT,Nat.reduceLeDiff,Nat.reduceEqDiff,reduceIte,Int.reduceEq,reduceCtorEq,WT,hlt,Nat.mul_one,Nat.zero_add,hl]
 exact AU (Over.enter s) rfl rfl
end Go.Proofs.Ytgloinighjdhlaa

namespace Go.Proofs.Ytgloinighjdhlaa
open Go.Proofs.Ytgloinighjdhlaa.Am
theorem WU (s:ByteArray) (pos:Nat) (h:pos < s.size) (ha:128≤(s.get! (pos+0)).toNat):pos+(Utf8.decode s pos).2≤s.size∧∀ k,k < (Utf8.decode s pos).2→128≤(s.get! (pos+k)).toNat:=by
 have hn:¬ (s.get! (pos+0)).toNat < 128:=by omega
 simp only [Utf8.decode,hn,if_false]
 split
 · rename_i h1
   simp only [Bool.and_eq_true,beq_iff_eq,decide_eq_true_eq] at h1
   split
   · refine ⟨by simp only; omega,fun k hk=>?_⟩
     have:k=0∨k=1:=by simp only at hk; omega
     rcases this with rfl | rfl<;>omega
   · refine ⟨by simp only; omega,fun k hk=>?_⟩
     have:k=0:=by simp only at hk; omega
     subst this; omega
 · split
   · rename_i h1
     simp only [Bool.and_eq_true,beq_iff_eq,decide_eq_true_eq] at h1
     split
     · refine ⟨by simp only; omega,fun k hk=>?_⟩
       have:k=0∨k=1∨k=2:=by simp only at hk; omega
       rcases this with rfl | rfl | rfl<;>omega
     · refine ⟨by simp only; omega,fun k hk=>?_⟩
       have:k=0:=by simp only at hk; omega
       subst this; omega
   · split
     · rename_i h1
       simp only [Bool.and_eq_true,beq_iff_eq,decide_eq_true_eq] at h1
       split
       · refine ⟨by simp only; omega,fun k hk=>?_⟩
         have:k=0∨k=1∨k=2∨k=3:=by simp only at hk; omega
         rcases this with rfl | rfl | rfl | rfl<;>omega
       · refine ⟨by simp only; omega,fun k hk=>?_⟩
         have:k=0:=by simp only at hk; omega
         subst this; omega
     · refine ⟨by simp only; omega,fun k hk=>?_⟩
       have:k=0:=by simp only at hk; omega
       subst this; omega
theorem bytes_get {l:List Nat} (hl:∀ n∈l,n < 256) {i:Nat} (h:i < l.length):((⟨(l.map UInt8.ofNat).toArray⟩:ByteArray).get! i).toNat=l[i]:=by
 have h1:i < (l.map UInt8.ofNat).toArray.size:=by simpa using h
 have:(⟨(l.map UInt8.ofNat).toArray⟩:ByteArray).get! i=UInt8.ofNat l[i]:=by
  show (l.map UInt8.ofNat).toArray[i]! = _
  rw [getElem!_pos _ i h1]
  simp
 rw [this,u8N (hl _ (List.getElem_mem h))]
theorem bytes_size (l:List Nat):(⟨(l.map UInt8.ofNat).toArray⟩:ByteArray).size=l.length:=by
 show (l.map UInt8.ofNat).toArray.size=_
 simp
theorem WV {l:List Nat} (hl:∀ n∈l,n < 256) {pos:Nat} (h:pos < l.length) (hc:128≤l[pos]) :
    ∃ r w,Utf8.decode ⟨(l.map UInt8.ofNat).toArray⟩ pos=(r,w)∧128≤r∧r≤2147483647∧1≤w∧pos+w≤l.length∧∀ k (hk:k < l.length),pos≤k→k < pos+w→128≤l[k]:=by
 have hs:=bytes_size l
 have hg:=bytes_get hl h
 have hps:pos < (⟨(l.map UInt8.ofNat).toArray⟩:ByteArray).size:=by rw [hs]; exact h
 have hge:=get_at (⟨(l.map UInt8.ofNat).toArray⟩:ByteArray) pos hps
 have ha:128≤((⟨(l.map UInt8.ofNat).toArray⟩:ByteArray).get! (pos+0)).toNat:=by rw [Nat.add_zero,hg]; exact hc
 have h1:=decode_high (⟨(l.map UInt8.ofNat).toArray⟩:ByteArray) pos hps (by rw [← hge]; exact ha)
 have h2:=decode_le (⟨(l.map UInt8.ofNat).toArray⟩:ByteArray) pos
 have h3:=WU (⟨(l.map UInt8.ofNat).toArray⟩:ByteArray) pos hps ha
 rw [hs] at h3
 obtain ⟨⟨r,w⟩,hrw⟩:∃ x,Utf8.decode (⟨(l.map UInt8.ofNat).toArray⟩:ByteArray) pos=x:=⟨_,rfl⟩
 rw [hrw] at h1 h2 h3
 simp only at h1 h2 h3
 refine ⟨r,w,hrw,h1.1,h2,h1.2,h3.1,fun k hk h4 h5=>?_⟩
 have h6:=h3.2 (k - pos) (by omega)
 rw [show pos+(k - pos)=k by omega,bytes_get hl hk] at h6
 exact h6
def anyK (l:List Nat):Bool:=l.any fun c=>decide (c∈K3)
theorem Um {r:Int} (h:128≤r):PQ r = -1:=by unfold PQ; rw [if_neg (by omega)]
theorem NK (c:Nat) (h:c < 128):(0≤PQ (c:Int))↔c∈K3:=by
 unfold PQ
 rw [if_pos (by omega),Int.toNat_natCast]
 have:=Rb (c:=c) (l:=K3) (n:=0)
 constructor
 · intro h1
   by_cases h2:c∈K3
   · exact h2
   · exact absurd (this.2 h2) (by omega)
 · intro h1
   by_cases h2:idxB c 0 K3 < 0
   · exact absurd h1 (this.1 h2)
   · omega
theorem QY {l:List Nat} {i:Nat} (h:i < l.length) (hm:l[i]∈K3):anyK l=true:=by
 unfold anyK
 rw [List.any_eq_true]
 exact ⟨_,List.getElem_mem h,by simpa using hm⟩
theorem J6 {l:List Nat} (h:∀ i (hi:i < l.length),l[i]∉K3):anyK l=false:=by
 unfold anyK
 rw [List.any_eq_false]
 intro x hx
 obtain ⟨i,hi,rfl⟩:=List.mem_iff_getElem.1 hx
 simpa using h i hi
theorem KY (n:Int) (s:St):(lim prog).call Bz [.i .i64 n] s=some (.b (decide (8 < n)),s):=by
 refine fn_W Fa rfl rfl ?_
 simp only [Ba,go_sem,Ah,AH,AJ,AK,Ae,KB_n,KB_x,Nat.reduceBEq,Nat.reduceAdd,Nat.reduceLT,Nat.reduceLeDiff,Nat.reduceEqDiff,reduceIte,Int.reduceEq,reduceCtorEq]
 exact AU (Over.enter s) rfl rfl
def IAP (l:List Nat) (s:St) (r:AV) (s':St):Prop:=s'=s∧∃ z:Int,r=.i .i64 z∧(decide (0≤z))=anyK l
theorem KH_i {s s2:St} {l:List Nat} {z:Int} (hov:Over s s2) (h:decide (0≤z)=anyK l):KH s [CT.id] (IAP l s) (some ([.i .i64 z],s2)):=by
 refine ⟨_,_,rfl,?_⟩
 show IAP l s (.i .i64 z) (leave s s2 (.i .i64 z))
 rw [hov.leave rfl]
 exact ⟨rfl,z,rfl,h⟩
theorem QZ (l:List Nat) (hl:Txt l) (s:St) (hw:Wf s):∃ r s',(lim prog).call EO [.s l,.s K3] s=some (r,s')∧IAP l s r s':=by
 refine fn_G (Post:=IAP l s) JW rfl rfl ?_
 have hlen:=hl.len
 have k1:((K3:List Nat)=[])=False:=by simp
 have k2:((3:Int)=1)=False:=by simp
 have hkl:List.length K3=3:=rfl
 have ia_cin:Bi.cin=[.id,.id]:=rfl
 have ia_res:Bi.res=[(4,none)]:=rfl
 have ia_cout:Bi.cout=[.id]:=rfl
 rw [Ym,ia_cin,ia_res,ia_cout]
 by_cases h8:(8:Int) < (l.length:Int)
 · have hmk:=mk_ok s.enter hw.enter
   have hb0:(s.enter.new (.cells 130 Z256)).box? s.enter.nb=some (.cells 130 (bs F256)):=BR s.enter _
   have st:=bs_st hb0 Ul len0
   rw [FX] at st
   obtain ⟨s1,hs1⟩:∃ s1,s.enter.new (.cells 130 (bs B3))=s1:=⟨_,rfl⟩
   have hb1:s1.box? s.enter.nb=some (.cells 130 (bs B3)):=by rw [← hs1]; exact BR s.enter _
   have ov1:Over s s1:=by rw [← hs1]; exact (Over.enter s).new _
   rw [hs1] at st
   have hcells:(AV.agg (bs B3)).cells.length=256:=by show (bs B3).length=256; simpa using Ul
   simp only [go_sem,Ah,AH,AJ,AK,Ae,KB_n,KB_x,Nat.reduceBEq,Nat.reduceAdd,Nat.reduceLT,Nat.reduceLeDiff,Nat.reduceEqDiff,reduceIte,Int.reduceEq,reduceCtorEq,Ap,hkl,Int.cast_ofNat_Int,k1,k2,KY,h8,hmk,st]
   refine CH (fun n e q=>∃ i:Nat,i+n=l.length∧q=s1∧e.get 0=.s l∧e.get 6=.p s.enter.nb 0∧e.get 8=.i .i64 i∧∀ (j:Nat) (hj:j < l.length),j < i→l[j]∉K3) ?_ l.length _ _ ?_
   · rintro n e q ⟨i,hi,rfl,g0,g6,g8,hno⟩
     simp only [go_sem,Ah,AH,AJ,AK,Ae,KB_n,KB_x,Nat.reduceBEq,Nat.reduceAdd,Nat.reduceLT,Nat.reduceLeDiff,Nat.reduceEqDiff,reduceIte,Int.reduceEq,reduceCtorEq,g0,g8,Ap]
     refine L4 (fun hlt=>?_) (fun hge=>?_)
     · have hlt:i < l.length:=by omega
       have hget:l[i]? = some l[i]:=List.getElem?_eq_getElem hlt
       have h256:=hl.lt l[i] (List.getElem_mem hlt)
       have hc:=QX hb1 h256 (b3_get h256)
       simp only [go_sem,Ah,AH,AJ,AK,Ae,KB_n,KB_x,Nat.reduceBEq,Nat.reduceAdd,Nat.reduceLT,Nat.reduceLeDiff,Nat.reduceEqDiff,reduceIte,Int.reduceEq,reduceCtorEq,g0,g6,g8,Hn,hget,Ap,hc]
       refine L4 (fun hm=>?_) (fun hm=>?_)
       · exact KH_i ov1 (by rw [QY hlt hm]; simp)
       · simp only [go_sem,Ah,AH,AJ,AK,Ae,KB_n,KB_x,Nat.reduceBEq,Nat.reduceAdd,Nat.reduceLT,Nat.reduceLeDiff,Nat.reduceEqDiff,reduceIte,Int.reduceEq,reduceCtorEq,A9 (show i+1 < 2^63 by omega),g0,g6,g8]
         refine ⟨n - 1,by omega,i+1,by omega,rfl,fun j hj hji=>?_⟩
         by_cases hje:j=i
         · subst hje; exact hm
         · exact hno j hj (by omega)
     · exact KH_i ov1 (by rw [J6 fun j hj=>hno j hj (by omega)]; decide)
   · simp only [go_sem,Ah,AH,AJ,AK,Ae,KB_n,KB_x,Nat.reduceBEq,Nat.reduceAdd,Nat.reduceLT,Nat.reduceLeDiff,Nat.reduceEqDiff,reduceIte,Int.reduceEq,reduceCtorEq]
     exact ⟨0,by omega,rfl,fun j hj h=>by omega⟩
 · have hsi:∀ p p',(s.enter.new (.siter l p)).setBox s.enter.nb (.siter l p')=s.enter.new (.siter l p'):=fun p p'=>FX _ _ _
   simp only [go_sem,Ah,AH,AJ,AK,Ae,KB_n,KB_x,Nat.reduceBEq,Nat.reduceAdd,Nat.reduceLT,Nat.reduceLeDiff,Nat.reduceEqDiff,reduceIte,Int.reduceEq,reduceCtorEq,Ap,hkl,Int.cast_ofNat_Int,k1,k2,KY,h8]
   refine CH (fun n e q=>∃ i:Nat,i+n=l.length∧q=s.enter.new (.siter l i)∧e.get 1=.s K3∧e.get 45=.p s.enter.nb 0∧∀ (j:Nat) (hj:j < l.length),j < i→l[j]∉K3) ?_ l.length _ _ ?_
   · rintro n e q ⟨i,hi,rfl,g1,g45,hno⟩
     have ov1:∀ p,Over s (s.enter.new (.siter l p)):=fun p=>(Over.enter s).new _
     by_cases hlt:i < l.length
     · have hget:l[i]? = some l[i]:=List.getElem?_eq_getElem hlt
       by_cases h128:l[i] < 128
       · have h128':(l[i] < 128)=True:=by simp [h128]
         have hr:=KX (l[i]:Int) (by omega) (by omega)
         simp only [go_sem,Ah,AH,AJ,AK,Ae,KB_n,KB_x,Nat.reduceBEq,Nat.reduceAdd,Nat.reduceLT,Nat.reduceLeDiff,Nat.reduceEqDiff,reduceIte,Int.reduceEq,reduceCtorEq,g1,g45,hget,h128',Ap,hsi,hr]
         refine L4 (fun hm=>?_) (fun hm=>?_)
         · exact KH_i (ov1 _) (by rw [QY hlt ((NK _ h128).1 hm)]; simp)
         · trace_state
           refine ⟨n - 1,by omega,i+1,by omega,rfl,fun j hj hji=>?_⟩
           by_cases hje:j=i
           · subst hje; exact fun hh=>hm ((NK _ h128).2 hh)
           · exact hno j hj (by omega)
       · have h128':(l[i] < 128)=False:=by simp [h128]
         obtain ⟨r,w,e1,e2,e3,e4,e5,e6⟩:=WV hl.lt hlt (by omega)
         have hr:=KX (r:Int) (by omega) (by omega)
         rw [Um (by omega)] at hr
         have hm1:((0:Int) ≤ -1)=False:=by simp
         simp only [go_sem,Ah,AH,AJ,AK,Ae,KB_n,KB_x,Nat.reduceBEq,Nat.reduceAdd,Nat.reduceLT,Nat.reduceLeDiff,Nat.reduceEqDiff,reduceIte,Int.reduceEq,reduceCtorEq,g1,g45,hget,h128',Ap,hsi,e1,hr,hm1]
         refine ⟨n - w,by omega,i+w,by omega,rfl,fun j hj hji=>?_⟩
         by_cases hje:j < i
         · exact hno j hj hje
         · have:=e6 j hj (by omega) hji
           simp only [List.mem_cons,List.not_mem_nil,or_false]
           omega
     · have hget:l[i]? = none:=List.getElem?_eq_none (by omega)
       simp only [go_sem,Ah,AH,AJ,AK,Ae,KB_n,KB_x,Nat.reduceBEq,Nat.reduceAdd,Nat.reduceLT,Nat.reduceLeDiff,Nat.reduceEqDiff,reduceIte,Int.reduceEq,reduceCtorEq,g1,g45,hget]
       exact KH_i (ov1 _) (by rw [J6 fun j hj=>hno j hj (by omega)]; decide)
   · simp only [go_sem,Ah,AH,AJ,AK,Ae,KB_n,KB_x,Nat.reduceBEq,Nat.reduceAdd,Nat.reduceLT,Nat.reduceLeDiff,Nat.reduceEqDiff,reduceIte,Int.reduceEq,reduceCtorEq]
     exact ⟨0,by omega,rfl,fun j hj h=>by omega⟩
theorem Mv (l:List Nat) (hl:Txt l) (s:St) (hw:Wf s):(lim prog).call De [.s l,.s K3] s=some (.b (anyK l),s):=by
 refine fn_W Hh rfl rfl ?_
 obtain ⟨r,s',h,rfl,z,rfl,hz⟩:=QZ l hl s.enter hw.enter
 simp only [CO,go_sem,Ah,AH,AJ,AK,Ae,KB_n,KB_x,Nat.reduceBEq,Nat.reduceAdd,Nat.reduceLT,Nat.reduceLeDiff,Nat.reduceEqDiff,reduceIte,Int.reduceEq,reduceCtorEq,h]
 exact AU (Over.enter s) rfl (by rw [hz]; rfl)
def Fl (l:List Nat):Bool:=decide (l≠[])&&(decide (l.length≤64)&&(decide (l≠[46])&&(decide (l≠[46,46])&&!anyK l)))
theorem Yo (l:List Nat) (hl:Txt l) (s:St) (hw:Wf s):(lim prog).call Is [.s l] s=some (.b (Fl l),s):=by
 refine fn_W QF rfl rfl ?_
 have hc:=Mv l hl s.enter hw.enter
 have hk:∀ b,b=Fl l→KR s [CT.id] (.b (Fl l)) (some ([.b b],s.enter)):=fun b hb=>AU (Over.enter s) rfl (by rw [hb]; rfl)
 have h64i:∀ h:l.length≤64,(((l.length:Nat):Int)≤64)=True:=fun h=>by simp; omega
 by_cases h1:l=[]
 · have h1':(l≠[])=False:=by simp [h1]
   simp only [DL,go_sem,Ah,AH,AJ,AK,Ae,KB_n,KB_x,Nat.reduceBEq,Nat.reduceAdd,Nat.reduceLT,Nat.reduceLeDiff,Nat.reduceEqDiff,reduceIte,Int.reduceEq,reduceCtorEq,h1']
   exact hk _ (by simp [Fl,h1])
 · have h1':(l≠[])=True:=by simp [h1]
   by_cases h2:l.length≤64
   · have h2':=h64i h2
     by_cases h3:l=[46]
     · have h3':(l≠[46])=False:=by simp [h3]
       simp only [DL,go_sem,Ah,AH,AJ,AK,Ae,KB_n,KB_x,Nat.reduceBEq,Nat.reduceAdd,Nat.reduceLT,Nat.reduceLeDiff,Nat.reduceEqDiff,reduceIte,Int.reduceEq,reduceCtorEq,Ap,h1',h2',h3']
       exact hk _ (by simp [Fl,h3])
     · have h3':(l≠[46])=True:=by simp [h3]
       by_cases h4:l=[46,46]
       · have h4':(l≠[46,46])=False:=by simp [h4]
         simp only [DL,go_sem,Ah,AH,AJ,AK,Ae,KB_n,KB_x,Nat.reduceBEq,Nat.reduceAdd,Nat.reduceLT,Nat.reduceLeDiff,Nat.reduceEqDiff,reduceIte,Int.reduceEq,reduceCtorEq,Ap,h1',h2',h3',h4']
         exact hk _ (by simp [Fl,h4])
       · have h4':(l≠[46,46])=True:=by simp [h4]
         simp only [DL,go_sem,Ah,AH,AJ,AK,Ae,KB_n,KB_x,Nat.reduceBEq,Nat.reduceAdd,Nat.reduceLT,Nat.reduceLeDiff,Nat.reduceEqDiff,reduceIte,Int.reduceEq,reduceCtorEq,Ap,h1',h2',h3',h4',hc]
         exact hk _ (by simp [Fl,h1,h2,h3,h4])
   · have h2':(((l.length:Nat):Int)≤64)=False:=by simp; omega
     simp only [DL,go_sem,Ah,AH,AJ,AK,Ae,KB_n,KB_x,Nat.reduceBEq,Nat.reduceAdd,Nat.reduceLT,Nat.reduceLeDiff,Nat.reduceEqDiff,reduceIte,Int.reduceEq,reduceCtorEq,Ap,h1',h2']
     exact hk _ (by simp [Fl,h2])

theorem Ra (x y:List Nat):Am.binOp .leq (.s x) (.s y)=some (.b (ltN x y||beqN x y)):=by simp [Am.binOp,Pb]
theorem MW:∀ (a b:List Nat),(ltN a b||beqN a b)=!ltN b a
 | [],[]=>rfl
 | [],_::_=>rfl
 | _::_,[]=>rfl
 | a :: x,b::y=>by
   have:=MW x y
   simp only [ltN,beqN]
   rcases Nat.lt_trichotomy a b with h | h | h
   · have e1:Nat.blt a b=true:=by rw [Nat.blt_eq]; exact h
     have e2:Nat.blt b a=false:=by rw [Bool.eq_false_iff]; intro hh; rw [Nat.blt_eq] at hh; omega
     have e3:Nat.beq b a=false:=by rw [Bool.eq_false_iff]; intro hh; rw [Nat.beq_eq] at hh; omega
     simp [e1,e2,e3]
   · subst h
     have e1:Nat.blt a a=false:=by rw [Bool.eq_false_iff]; intro hh; rw [Nat.blt_eq] at hh; omega
     simp only [e1,Nat.beq_refl,Bool.true_and,Bool.false_or,this]
   · have e1:Nat.blt b a=true:=by rw [Nat.blt_eq]; exact h
     have e2:Nat.blt a b=false:=by rw [Bool.eq_false_iff]; intro hh; rw [Nat.blt_eq] at hh; omega
     have e3:Nat.beq a b=false:=by rw [Bool.eq_false_iff]; intro hh; rw [Nat.beq_eq] at hh; omega
     simp [e1,e2,e3]

def segs:List Nat→List Nat→List (List Nat)
 | cur,[]=>[cur]
 | cur,c::l=>if c=47 then cur::segs [] l else segs (cur++[c]) l
def splitL (l:List Nat):List (List Nat):=segs [] l
theorem J7 {s s1:St} {v:AV} (h:v.refs=true):leave s s1 v={ s1 with lo:=min s.lo s1.lo }:=by
 unfold Am.leave
 rw [h,Bool.not_true,Bool.and_false,if_neg (by simp)]

def stepOk (x:List Nat):Bool:=decide (x≠[])&&decide (x≠[46])
def cnt (l:List Nat) (j:Nat):Nat:=(((splitL l).take j).filter stepOk).length

/-! ### Clean -/



theorem Yp (l:List Nat):anyK l=false↔∀ (i:Nat) (h:i < l.length),l[i]≠0∧l[i]≠47∧l[i]≠10:=by
 constructor
 · intro h i hi
   unfold anyK at h
   rw [List.any_eq_false] at h
   have:=h l[i] (List.getElem_mem hi)
   simp only [List.mem_cons,List.not_mem_nil,or_false,decide_eq_true_eq,not_or] at this
   exact ⟨this.2.1,this.1,this.2.2⟩
 · intro h
   refine J6 fun i hi=>?_
   obtain ⟨h1,h2,h3⟩:=h i hi
   simp [h1,h2,h3]
theorem SI (l:List Nat) (hl:l.length < 2^63) (s:St):(lim prog).call DX [.s l] s=some (.b (Fl l),s):=by
 refine fn_W HD rfl rfl ?_
 have hk:∀ b,b=Fl l→KR s [CT.id] (.b (Fl l)) (some ([.b b],s.enter)):=fun b hb=>AU (Over.enter s) rfl (by rw [hb]; rfl)
 by_cases h1:l=[]
 · have h1':(l=[])=True:=by simp [h1]
   simp only [BB,go_sem,Ah,AH,AJ,AK,Ae,KB_n,KB_x,Nat.reduceBEq,Nat.reduceAdd,Nat.reduceLT,Nat.reduceLeDiff,Nat.reduceEqDiff,reduceIte,Int.reduceEq,reduceCtorEq,h1']
   exact hk _ (by simp [Fl,h1])
 have h1':(l=[])=False:=by simp [h1]
 by_cases h2:(64:Int) < (l.length:Int)
 · simp only [BB, go_sem,Ah,AH,AJ,AK,Ae,KB_n,KB_x,Nat.reduceBEq,Nat.reduceAdd,Nat.reduceLT,Nat.reduceLeDiff,Nat.reduceEqDiff,reduceIte,Int.reduceEq,reduceCtorEq,h1',Ap,h2]
   exact hk _ (by have:¬ l.length≤64:=by omega
                  simp [Fl,this])
 by_cases h3:l=[46]
 · have h3':(l=[46])=True:=by simp [h3]
   simp only [BB,go_sem,Ah,AH,AJ,AK,Ae,KB_n,KB_x,Nat.reduceBEq,Nat.reduceAdd,Nat.reduceLT,Nat.reduceLeDiff,Nat.reduceEqDiff,reduceIte,Int.reduceEq,reduceCtorEq,h1',Ap,h2,h3']
   exact hk _ (by simp [Fl,h3])
 have h3':(l=[46])=False:=by simp [h3]
 by_cases h4:l=[46,46]
 · have h4':(l=[46,46])=True:=by simp [h4]
   simp only [BB,go_sem,Ah,AH,AJ,AK,Ae,KB_n,KB_x,Nat.reduceBEq,Nat.reduceAdd,Nat.reduceLT,Nat.reduceLeDiff,Nat.reduceEqDiff,reduceIte,Int.reduceEq,reduceCtorEq,h1',Ap,h2,h3',h4']
   exact hk _ (by simp [Fl,h4])
 have h4':(l=[46,46])=False:=by simp [h4]
 have hle:l.length≤64:=by omega
 have hN:Fl l=!anyK l:=by simp [Fl,h1,h3,h4,hle]
 simp only [BB,go_sem,Ah,AH,AJ,AK,Ae,KB_n,KB_x,Nat.reduceBEq,Nat.reduceAdd,Nat.reduceLT,Nat.reduceLeDiff,Nat.reduceEqDiff,reduceIte,Int.reduceEq,reduceCtorEq,h1',Ap,h2,h3',h4']
 refine CH (fun n e q=>s.enter=q∧e.get 0=.s l∧∃ i:Nat,i+n=l.length∧e.get 3=.i .i64 i∧∀ (j:Nat) (h:j < l.length),j < i→l[j]≠0∧l[j]≠47∧l[j]≠10) ?_ l.length _ _ ?_
 · rintro n e q ⟨rfl,g0,i,hi,g3,hno⟩
   simp only [go_sem,Ah,AH,AJ,AK,Ae,KB_n,KB_x,Nat.reduceBEq,Nat.reduceAdd,Nat.reduceLT,Nat.reduceLeDiff,Nat.reduceEqDiff,reduceIte,Int.reduceEq,reduceCtorEq,g0,g3,Ap]
   refine L4 (fun hlt=>?_) (fun hge=>?_)
   · have hlt:i < l.length:=by omega
     have hget:l[i]? = some l[i]:=List.getElem?_eq_getElem hlt
     obtain ⟨c,hc⟩:∃ c,l[i]=c:=⟨_,rfl⟩
     rw [hc] at hget
     have hbad:c∈K3→Fl l=false:=fun hm=>by rw [hN,QY hlt (by rw [hc]; exact hm)]; rfl
     by_cases c0:c=0
     · have c0':((c:Int)=0)=True:=by simp [c0]
       simp only [go_sem,Ah,AH,AJ,AK,Ae,KB_n,KB_x,Nat.reduceBEq,Nat.reduceAdd,Nat.reduceLT,Nat.reduceLeDiff,Nat.reduceEqDiff,reduceIte,Int.reduceEq,reduceCtorEq,g0,g3,Hn,hget,Ap,c0']
       exact hk _ (hbad (by simp [c0])).symm
     have c0':((c:Int)=0)=False:=by simp; omega
     by_cases c1:c=47
     · have c1':((c:Int)=47)=True:=by simp; omega
       simp only [go_sem,Ah,AH,AJ,AK,Ae,KB_n,KB_x,Nat.reduceBEq,Nat.reduceAdd,Nat.reduceLT,Nat.reduceLeDiff,Nat.reduceEqDiff,reduceIte,Int.reduceEq,reduceCtorEq,g0,g3,Hn,hget,Ap,c0',c1']
       exact hk _ (hbad (by simp [c1])).symm
     have c1':((c:Int)=47)=False:=by simp; omega
     by_cases c2:c=10
     · have c2':((c:Int)=10)=True:=by simp; omega
       simp only [go_sem,Ah,AH,AJ,AK,Ae,KB_n,KB_x,Nat.reduceBEq,Nat.reduceAdd,Nat.reduceLT,Nat.reduceLeDiff,Nat.reduceEqDiff,reduceIte,Int.reduceEq,reduceCtorEq,g0,g3,Hn,hget,Ap,c0',c1',c2']
       exact hk _ (hbad (by simp [c2])).symm
     have c2':((c:Int)=10)=False:=by simp; omega
     simp only [go_sem,Ah,AH,AJ,AK,Ae,KB_n,KB_x,Nat.reduceBEq,Nat.reduceAdd,Nat.reduceLT,Nat.reduceLeDiff,Nat.reduceEqDiff,reduceIte,Int.reduceEq,reduceCtorEq,g0,g3,Hn,hget,Ap,c0',c1',c2',A9 (show i+1 < 2^63 by omega)]
     refine ⟨n - 1,by omega,i+1,by omega,rfl,fun j hj hji=>?_⟩
     by_cases hje:j=i
     · subst hje; rw [hc]; exact ⟨c0,c1,c2⟩
     · exact hno j hj (by omega)
   · exact hk _ (by rw [hN,(Yp l).2 fun i hi=>hno i hi (by omega)]; rfl)
 · simp only [go_sem,Ah,AH,AJ,AK,Ae,KB_n,KB_x,Nat.reduceBEq,Nat.reduceAdd,Nat.reduceLT,Nat.reduceLeDiff,Nat.reduceEqDiff,reduceIte,Int.reduceEq,reduceCtorEq]
   exact ⟨0,by omega,rfl,fun j hj h=>by omega⟩
theorem SJ {es t0 T:Nat} {s:St} {a:AV} {xs:List AV} (hr:RowP es t0 s T a xs):(a=.nsl∧xs=[])∨∃ k v,a=.sl es xs (.tok k v):=by
 rcases hr with h | ⟨k,v,t,rfl,_⟩
 · exact .inl h
 · exact .inr ⟨k,v,rfl⟩

theorem le11s:(1≤1)=True:=by simp
end Go.Proofs.Ytgloinighjdhlaa

set_option maxHeartbeats 2000000
namespace Go.Proofs.Ytgloinighjdhlaa
open Go.Proofs.Ytgloinighjdhlaa.Am
attribute [local irreducible] W WO WE WQ WD Tr.get Tr.set
def zx (L:List Int):AV:=.ws false 1 (L.map iv)
def FT.cells (f:FT):List AV:=[.b f.known,.i .u8 (f.kind:Nat),tx f.names,zx f.kids,.i .i64 f.rest,.i .i64 f.beside]
def FT.av (f:FT):AV:=.agg f.cells
def fx (l:List FT):AV:=.ws false 6 (l.map FT.av)
structure FT.Ok (f:FT):Prop where
 kind:f.kind < 256
 names:∀ l∈f.names,Txt l∧l.length < 2^62
 nlen:f.names.length < 2^34
 klen:f.kids.length < 2^34
def FT.isDir (f:FT):Bool:=f.known&&decide (f.kind=2)
def ascN:Option (List Nat)→List (List Nat)→Bool
 | _,[]=>true
 | p,s::ns=>Fl s&&((match p with | none=>true | some q=>ltN q s)&&ascN (some s) ns)
theorem MD:∀ (p:Option (List Nat)) (ns:List (List Nat)) (s:List Nat),
    ascN p (ns++[s])=(ascN p ns&&(Fl s&&(match ns.getLast?.or p with | none=>true | some q=>ltN q s)))
 | p,[],s=>by
   simp only [List.nil_append,ascN,Bool.and_true,Bool.true_and,List.getLast?_nil,Option.none_or]
 | p, a::ns,s=>by
   simp only [List.cons_append,ascN,MD (some a) ns s,Bool.and_assoc]
   have:(a::ns).getLast?.or p=(ns.getLast?.or (some a)):=by
    cases ns with
    | nil=>rfl
    | cons c ns =>
      cases hns:(c::ns).getLast? with
      | none=>simp at hns
      | some v=>rw [List.getLast?_cons_cons,hns]; rfl
   rw [this]
theorem ME:∀ (p:Option (List Nat)) (ns:List (List Nat)) (i:Nat),ascN p ns=true→ascN p (ns.take i)=true
 | _,_,0,_=>by simp [ascN]
 | _,[],i+1,_=>by simp [ascN]
 | p,s::ns,i+1,h=>by
   simp only [List.take_succ_cons,ascN,Bool.and_eq_true] at h ⊢
   exact ⟨h.1,h.2.1,ME (some s) ns i h.2.2⟩
def FT.restB (f:FT):Bool:=if f.rest=2 then decide (0≤f.beside)&&decide (f.beside≤(f.names.length:Int)) else (decide (f.rest=0)||decide (f.rest=1))&&decide (f.beside=0)
def FT.bad (f:FT):Bool:=decide (3 < f.kind)||((!f.known&&decide (f.kind≠0))||decide (f.names.length≠f.kids.length))
def FT.one (f:FT):Bool:=!f.bad&&(if f.isDir then ascN none f.names&&f.restB else decide (f.names.length=0)&&(decide (f.rest=0)&&decide (f.beside=0)))
theorem CI (f:FT):f.cells.length=6:=rfl
theorem Fc {l:List FT} {i:Nat} {f:FT} (h:l[i]? = some f):(l.map FT.av)[i]? = some (.agg f.cells):=by
 rw [List.getElem?_map,h]; rfl
theorem Ax (f:FT) (s:St):ldA s true 6 (.ep f.cells 0 .shut)=some (.agg f.cells):=rfl
theorem AW (f:FT) (s:St):pubL s f.cells=some (f.cells,s):=rfl
theorem Wm (f:FT) (s:St) (hw:Wf s):(lim prog).call JS [.agg f.cells] s=some (.b f.isDir,s):=by
 refine fn_W T1 rfl rfl ?_
 have H1:=(Hp.begin hw).new (.cells 60 f.cells)
 generalize hq:s.enter.new (.cells 60 f.cells)=q at H1
 generalize hm:s.enter.nb=m at H1
 have l0:=H1.ld 0 (off:=0) (v:=.b f.known) rfl rfl
 have l1:=H1.ld 0 (off:=1) (v:=.i .u8 (f.kind:Nat)) rfl rfl
 have hz0:wkZ Ey.cin [.agg f.cells]=[.agg f.cells]:=by simp [Ey,wkZ,wk,FT.cells,zx]
 rw [hz0]
 have hbr:∀ b,KR s [.id] (.b b) (some ([.b b],q)):=fun b=>AU H1.over rfl rfl
 have e1:((f.kind:Int)=2)=(f.kind=2):=by simp only [eq_iff_iff]; omega
 unfold FT.isDir
 cases hk:f.known
 · rw [hk] at l0
   simp only [Ey,go_sem,AE,AA,AC,AB,KB_n,KB_x,Nat.reduceBEq,Nat.reduceAdd,Nat.reduceLT,Nat.reduceLeDiff,Nat.reduceEqDiff,reduceIte,Int.reduceEq,reduceCtorEq,CI,hq,hm,l0,l1,Nat.zero_add,e1,Bool.false_and]
   exact hbr _
 · rw [hk] at l0
   simp only [Ey,go_sem,AE,AA,AC,AB,KB_n,KB_x,Nat.reduceBEq,Nat.reduceAdd,Nat.reduceLT,Nat.reduceLeDiff,Nat.reduceEqDiff,reduceIte,Int.reduceEq,reduceCtorEq,CI,hq,hm,l0,l1,Nat.zero_add,e1,Bool.true_and]
   exact hbr _
theorem MF (f:FT) (s:St) (hw:Wf s):(lim prog).call Cv [.agg f.cells] s=some (.b f.isDir,s):=by
 refine fn_W Hf rfl rfl ?_
 have H1:=(Hp.begin hw).new (.cells 60 f.cells)
 generalize hq:s.enter.new (.cells 60 f.cells)=q at H1
 generalize hm:s.enter.nb=m at H1
 have l0:=H1.ld 0 (off:=0) (v:=.b f.known) rfl rfl
 have l1:=H1.ld 0 (off:=1) (v:=.i .u8 (f.kind:Nat)) rfl rfl
 have hz0:wkZ BX.cin [.agg f.cells]=[.agg f.cells]:=by simp [BX,wkZ,wk,FT.cells,zx]
 rw [hz0]
 have hbr:∀ b,KR s [.id] (.b b) (some ([.b b],q)):=fun b=>AU H1.over rfl rfl
 have e1:((f.kind:Int)=2)=(f.kind=2):=by simp only [eq_iff_iff]; omega
 unfold FT.isDir
 cases hk:f.known
 · rw [hk] at l0
   simp only [BX,go_sem,AE,AA,AC,AB,KB_n,KB_x,Nat.reduceBEq,Nat.reduceAdd,Nat.reduceLT,Nat.reduceLeDiff,Nat.reduceEqDiff,reduceIte,Int.reduceEq,reduceCtorEq,CI,hq,hm,l0,l1,Nat.zero_add,e1,Bool.false_and]
   exact hbr _
 · rw [hk] at l0
   simp only [BX,go_sem,AE,AA,AC,AB,KB_n,KB_x,Nat.reduceBEq,Nat.reduceAdd,Nat.reduceLT,Nat.reduceLeDiff,Nat.reduceEqDiff,reduceIte,Int.reduceEq,reduceCtorEq,CI,hq,hm,l0,l1,Nat.zero_add,e1,Bool.true_and]
   exact hbr _
theorem QI (f:FT) (s:St) (hw:Wf s):(lim prog).call C4 [.agg f.cells] s=some (.b f.isDir,s):=by
 refine fn_W L9 rfl rfl ?_
 have H1:=(Hp.begin hw).new (.cells 60 f.cells)
 generalize hq:s.enter.new (.cells 60 f.cells)=q at H1
 generalize hm:s.enter.nb=m at H1
 have l0:=H1.ld 0 (off:=0) (v:=.b f.known) rfl rfl
 have l1:=H1.ld 0 (off:=1) (v:=.i .u8 (f.kind:Nat)) rfl rfl
 have hz0:wkZ Dg.cin [.agg f.cells]=[.agg f.cells]:=by simp [Dg,wkZ,wk,FT.cells,zx]
 rw [hz0]
 have hbr:∀ b,KR s [.id] (.b b) (some ([.b b],q)):=fun b=>AU H1.over rfl rfl
 have e1:((f.kind:Int)=2)=(f.kind=2):=by simp only [eq_iff_iff]; omega
 unfold FT.isDir
 cases hk:f.known
 · rw [hk] at l0
   simp only [Dg,go_sem,AE,AA,AC,AB,KB_n,KB_x,Nat.reduceBEq,Nat.reduceAdd,Nat.reduceLT,Nat.reduceLeDiff,Nat.reduceEqDiff,reduceIte,Int.reduceEq,reduceCtorEq,CI,hq,hm,l0,l1,Nat.zero_add,e1,Bool.false_and]
   exact hbr _
 · rw [hk] at l0
   simp only [Dg,go_sem,AE,AA,AC,AB,KB_n,KB_x,Nat.reduceBEq,Nat.reduceAdd,Nat.reduceLT,Nat.reduceLeDiff,Nat.reduceEqDiff,reduceIte,Int.reduceEq,reduceCtorEq,CI,hq,hm,l0,l1,Nat.zero_add,e1,Bool.true_and]
   exact hbr _
end Go.Proofs.Ytgloinighjdhlaa

set_option maxHeartbeats 4000000
namespace Go.Proofs.Ytgloinighjdhlaa
open Go.Proofs.Ytgloinighjdhlaa.Am
attribute [local irreducible] W WO WE WQ WD Tr.get Tr.set
theorem JX {L:List (List Nat)} {i:Nat} {y:List Nat} (h:L[i]? = some y):(L.take (i+1)).getLast? = some y:=by
 rw [List.take_add_one,h]
 simp
theorem RD (a b:Bool):(if (false=true) then a else b)=b:=rfl
theorem RE (a b:Bool):(if (true=true) then a else b)=a:=rfl
theorem one_ok (f:FT) (ho:f.Ok) (s:St) (hw:Wf s):(lim prog).call L7 [.agg f.cells] s=some (.b f.one,s):=by
 refine fn_W T3 rfl rfl ?_
 have H1:=(Hp.begin hw).new (.cells 60 f.cells)
 generalize hq:s.enter.new (.cells 60 f.cells)=q at H1
 generalize hm:s.enter.nb=m at H1
 have l0:=H1.ld 0 (off:=0) (v:=.b f.known) rfl rfl
 have l1:=H1.ld 0 (off:=1) (v:=.i .u8 (f.kind:Nat)) rfl rfl
 have l2:=H1.ld 0 (off:=2) (v:=tx f.names) rfl rfl
 have l3:=H1.ld 0 (off:=3) (v:=zx f.kids) rfl rfl
 have l4:=H1.ld 0 (off:=4) (v:=.i .i64 f.rest) rfl rfl
 have l5:=H1.ld 0 (off:=5) (v:=.i .i64 f.beside) rfl rfl
 have lw:=H1.ldw (m:=6) 0 rfl rfl
 have hz0:wkZ Cx.cin [.agg f.cells]=[.agg f.cells]:=by simp [Cx,wkZ,wk,FT.cells,zx]
 rw [hz0]
 have hbr:∀ b,KR s [.id] (.b b) (some ([.b b],q)):=fun b=>AU H1.over rfl rfl
 have hd:=Wm f q H1.wf
 unfold FT.one
 cases hb:f.bad
 · have hnb : ¬ (3 < f.kind)∧((!f.known&&decide (f.kind≠0))=false)∧f.names.length=f.kids.length:=by
    unfold FT.bad at hb
    simp only [Bool.or_eq_false_iff,decide_eq_false_iff_not,Decidable.not_not] at hb
    exact ⟨hb.1,hb.2.1,by simpa using hb.2.2⟩
   obtain ⟨a1,a2,a3⟩:=hnb
   have e1:((3:Int) < (f.kind:Int))=False:=eq_false (by omega)
   have e3:((f.names.length:Int)≠(f.kids.length:Int))=False:=by simp only [ne_eq,eq_iff_iff,iff_false]; omega
   have hx:∃ kn:Bool,f.known=kn∧((kn=false∧((f.kind:Int)≠0)=False)∨(kn=true∧(True=True))):=by
    cases hk:f.known
    · rw [hk] at a2
      exact ⟨_,rfl,.inl ⟨rfl,by simpa using a2⟩⟩
    · exact ⟨_,rfl,.inr ⟨rfl,rfl⟩⟩
   obtain ⟨kn,hk,hx⟩:=hx
   rw [hk] at l0
   rw [Bool.not_false,Bool.true_and]
   cases hi:f.isDir
   · rw [hi] at hd
     rw [RD]
     by_cases d1:f.names.length=0
     · have r1:(((f.names.length:Nat):Int)=0)=True:=by simp [d1]
       by_cases d2:f.rest=0
       · have r2:(f.rest=0)=True:=by simp [d2]
         rw [decide_eq_true d1,decide_eq_true d2,Bool.true_and,Bool.true_and]
         rcases hx with ⟨rfl,e2⟩ | ⟨rfl,e2⟩<;>simp only [Cx,go_sem,AE,AA,AC,AB,KB_n,KB_x,Nat.reduceBEq,Nat.reduceAdd,Nat.reduceLT,Nat.reduceLeDiff,Nat.reduceEqDiff,reduceIte,Int.reduceEq,reduceCtorEq,CI,hq,hm,l0,l1,l2,l3,l4,l5,lw,hd,zx,Nat.zero_add,e1,e2,List.length_map,e3,r1,r2,AW]<;>exact hbr _
       · have r2:(f.rest=0)=False:=by simp [d2]
         rw [decide_eq_true d1,decide_eq_false d2,Bool.false_and,Bool.and_false]
         rcases hx with ⟨rfl,e2⟩ | ⟨rfl,e2⟩<;>simp only [Cx,go_sem,AE,AA,AC,AB,KB_n,KB_x,Nat.reduceBEq,Nat.reduceAdd,Nat.reduceLT,Nat.reduceLeDiff,Nat.reduceEqDiff,reduceIte,Int.reduceEq,reduceCtorEq,CI,hq,hm,l0,l1,l2,l3,l4,l5,lw,hd,zx,Nat.zero_add,e1,e2,List.length_map,e3,r1,r2,AW]<;>exact hbr _
     · have r1:(((f.names.length:Nat):Int)=0)=False:=eq_false (by omega)
       rw [decide_eq_false d1,Bool.false_and]
       rcases hx with ⟨rfl,e2⟩ | ⟨rfl,e2⟩<;>simp only [Cx,go_sem,AE,AA,AC,AB,KB_n,KB_x,Nat.reduceBEq,Nat.reduceAdd,Nat.reduceLT,Nat.reduceLeDiff,Nat.reduceEqDiff,reduceIte,Int.reduceEq,reduceCtorEq,CI,hq,hm,l0,l1,l2,l3,l4,l5,lw,hd,zx,Nat.zero_add,e1,e2,List.length_map,e3,r1,AW]<;>exact hbr _
   · rw [hi] at hd
     rw [RE]
     have hkt:kn=true:=by
      unfold FT.isDir at hi
      rw [hk] at hi
      cases kn
      · cases hi
      · rfl
     subst hkt
     have hnl:=ho.nlen
     simp only [Cx,go_sem,AE,AA,AC,AB,KB_n,KB_x,Nat.reduceBEq,Nat.reduceAdd,Nat.reduceLT,Nat.reduceLeDiff,Nat.reduceEqDiff,reduceIte,Int.reduceEq,reduceCtorEq,CI,hq,hm,l0,l1,l2,l3,l4,l5,lw,hd,zx,Nat.zero_add,e1,List.length_map,e3,AW]
     refine CH (fun x e q'=>∃ i:Nat,i+x=f.names.length∧q'=q∧ascN none (f.names.take i)=true∧e.get 1=.p m 0∧e.get 47=tx f.names∧e.get 48=.i .i64 (f.names.length:Nat)∧e.get 49=.i .i64 (i:Nat)) ?_ f.names.length _ _ ?_
     · rintro x e q' ⟨i,hix,rfl,hac,g1,g47,g48,g49⟩
       by_cases h:i < f.names.length
       · have h1:((i:Int) < (f.names.length:Int))=True:=eq_true (by omega)
         obtain ⟨y,hy⟩:∃ y,f.names[i]? = some y:=⟨_,List.getElem?_eq_getElem h⟩
         have hy2:(f.names.map AV.s)[i]? = some (.s y):=by rw [List.getElem?_map,hy]; rfl
         have hym:y∈f.names:=List.mem_of_getElem? hy
         have hnm:=Yo y (ho.names y hym).1 q' H1.wf
         have hw1:=A9 (show i+1 < 2^63 by omega)
         have htk:f.names.take (i+1)=f.names.take i++[y]:=by rw [List.take_add_one,hy]; rfl
         have hsn:=MD none (f.names.take i) y
         rw [← htk,hac,Bool.true_and] at hsn
         have hno:ascN none (f.names.take (i+1))=false→ascN none f.names=false:=fun hf=>by
          rw [Bool.eq_false_iff]
          intro ht
          rw [ME none f.names (i+1) ht] at hf
          cases hf
         cases hn1:Fl y with
         | false =>
           rw [hn1] at hnm hsn
           rw [hno hsn,Bool.false_and]
           simp only [go_sem,AE,AA,AC,AB,KB_n,KB_x,Nat.reduceBEq,Nat.reduceAdd,Nat.reduceLT,Nat.reduceLeDiff,Nat.reduceEqDiff,reduceIte,Int.reduceEq,reduceCtorEq,g1,g47,g48,g49,h1,AI,hy2,Ff,Dy,hnm]
           exact hbr _
         | true =>
           rw [hn1] at hnm hsn
           cases i with
           | zero =>
             have h2:((0:Int) < ((0:Nat):Int))=False:=by simp
             have hsn:ascN none (f.names.take (0+1))=true:=by rw [hsn]; simp
             simp only [go_sem,AE,AA,AC,AB,KB_n,KB_x,Nat.reduceBEq,Nat.reduceAdd,Nat.reduceLT,Nat.reduceLeDiff,Nat.reduceEqDiff,reduceIte,Int.reduceEq,reduceCtorEq,g1,g47,g48,g49,h1,AI,hy2,Ff,Dy,hnm,h2,hw1]
             exact ⟨x - 1,by omega,0+1,by omega,hsn,rfl⟩
           | succ i =>
             have h2:((0:Int) < ((i+1:Nat):Int))=True:=eq_true (by omega)
             obtain ⟨z,hz⟩:∃ z,f.names[i]? = some z:=⟨_,List.getElem?_eq_getElem (by omega)⟩
             have hz2:(f.names.map AV.s)[i]? = some (.s z):=by rw [List.getElem?_map,hz]; rfl
             have hsb:IntKind.i64.wrap (((i+1:Nat):Int) - 1)=(i:Int):=by
              rw [show ((i+1:Nat):Int) - 1=(i:Int) by omega]; exact IH (by omega)
             rw [JX hz] at hsn
             have hsn:ascN none (f.names.take (i+1+1))=ltN z y:=by rw [hsn]; simp
             have hle:(ltN y z||beqN y z)=!ltN z y:=MW y z
             cases hzy:ltN z y with
             | false =>
               rw [hzy] at hle hsn
               rw [hno hsn,Bool.false_and]
               simp only [go_sem,AE,AA,AC,AB,KB_n,KB_x,Nat.reduceBEq,Nat.reduceAdd,Nat.reduceLT,Nat.reduceLeDiff,Nat.reduceEqDiff,reduceIte,Int.reduceEq,reduceCtorEq,g1,g47,g48,g49,h1,AI,hy2,Ff,Dy,hnm,h2,l2,hsb,hz2,Ra,hle,Nat.zero_add]
               exact hbr _
             | true =>
               rw [hzy] at hle hsn
               simp only [go_sem,AE,AA,AC,AB,KB_n,KB_x,Nat.reduceBEq,Nat.reduceAdd,Nat.reduceLT,Nat.reduceLeDiff,Nat.reduceEqDiff,reduceIte,Int.reduceEq,reduceCtorEq,g1,g47,g48,g49,h1,AI,hy2,Ff,Dy,hnm,h2,l2,hsb,hz2,Ra,hle,Nat.zero_add,hw1]
               exact ⟨x - 1,by omega,i+1+1,by omega,hsn,rfl⟩
       · have h1:((i:Int) < (f.names.length:Int))=False:=eq_false (by omega)
         rw [List.take_of_length_le (by omega)] at hac
         rw [hac,Bool.true_and]
         unfold FT.restB
         by_cases d1:f.rest=2
         · have r1:(f.rest=2)=True:=by simp [d1]
           rw [if_pos d1]
           by_cases d2:0≤f.beside
           · have r2:((0:Int)≤f.beside)=True:=by simp [d2]
             rw [decide_eq_true d2,Bool.true_and]
             simp only [go_sem,AE,AA,AC,AB,KB_n,KB_x,Nat.reduceBEq,Nat.reduceAdd,Nat.reduceLT,Nat.reduceLeDiff,Nat.reduceEqDiff,reduceIte,Int.reduceEq,reduceCtorEq,g1,g47,g48,g49,h1,l2,l4,l5,List.length_map,Nat.zero_add,r1,r2]
             exact hbr _
           · have r2:((0:Int)≤f.beside)=False:=by simp [d2]
             rw [decide_eq_false d2,Bool.false_and]
             simp only [go_sem,AE,AA,AC,AB,KB_n,KB_x,Nat.reduceBEq,Nat.reduceAdd,Nat.reduceLT,Nat.reduceLeDiff,Nat.reduceEqDiff,reduceIte,Int.reduceEq,reduceCtorEq,g1,g47,g48,g49,h1,l2,l4,l5,List.length_map,Nat.zero_add,r1,r2]
             exact hbr _
         · have r1:(f.rest=2)=False:=by simp [d1]
           rw [if_neg d1]
           by_cases d3:f.rest=0
           · have r3:(f.rest=0)=True:=by simp [d3]
             rw [decide_eq_true d3,Bool.true_or,Bool.true_and]
             simp only [go_sem,AE,AA,AC,AB,KB_n,KB_x,Nat.reduceBEq,Nat.reduceAdd,Nat.reduceLT,Nat.reduceLeDiff,Nat.reduceEqDiff,reduceIte,Int.reduceEq,reduceCtorEq,g1,g47,g48,g49,h1,l2,l4,l5,List.length_map,Nat.zero_add,r1,r3]
             exact hbr _
           · have r3:(f.rest=0)=False:=by simp [d3]
             rw [decide_eq_false d3,Bool.false_or]
             by_cases d4:f.rest=1
             · have r4:(f.rest=1)=True:=by simp [d4]
               rw [decide_eq_true d4,Bool.true_and]
               simp only [go_sem,AE,AA,AC,AB,KB_n,KB_x,Nat.reduceBEq,Nat.reduceAdd,Nat.reduceLT,Nat.reduceLeDiff,Nat.reduceEqDiff,reduceIte,Int.reduceEq,reduceCtorEq,g1,g47,g48,g49,h1,l2,l4,l5,List.length_map,Nat.zero_add,r1,r3,r4]
               exact hbr _
             · have r4:(f.rest=1)=False:=by simp [d4]
               rw [decide_eq_false d4,Bool.false_and]
               simp only [go_sem,AE,AA,AC,AB,KB_n,KB_x,Nat.reduceBEq,Nat.reduceAdd,Nat.reduceLT,Nat.reduceLeDiff,Nat.reduceEqDiff,reduceIte,Int.reduceEq,reduceCtorEq,g1,g47,g48,g49,h1,l2,l4,l5,List.length_map,Nat.zero_add,r1,r3,r4]
               exact hbr _
     · simp only [go_sem,AE,AA,AC,AB,KB_n,KB_x,Nat.reduceBEq,Nat.reduceAdd,Nat.reduceLT,Nat.reduceLeDiff,Nat.reduceEqDiff,reduceIte,Int.reduceEq,reduceCtorEq]
       exact ⟨0,by omega,by simp [ascN],rfl⟩
 · have hkn:f.names.length=(f.names.map AV.s).length:=by simp
   unfold FT.bad at hb
   by_cases a1:3 < f.kind
   · have e1:((3:Int) < (f.kind:Int))=True:=eq_true (by omega)
     simp only [Cx,go_sem,AE,AA,AC,AB,KB_n,KB_x,Nat.reduceBEq,Nat.reduceAdd,Nat.reduceLT,Nat.reduceLeDiff,Nat.reduceEqDiff,reduceIte,Int.reduceEq,reduceCtorEq,CI,hq,hm,l0,l1,l2,l3,l4,l5,Nat.zero_add,e1,Bool.not_true,Bool.false_and]
     exact hbr _
   · have e1:((3:Int) < (f.kind:Int))=False:=eq_false (by omega)
     rw [decide_eq_false a1,Bool.false_or] at hb
     cases hk:f.known
     · rw [hk] at l0 hb
       by_cases a2:f.kind=0
       · have e2:((f.kind:Int)≠0)=False:=by simp [a2]
         have hb:f.names.length≠f.kids.length:=by simpa [a2] using hb
         have e3:((f.names.length:Int)≠(f.kids.length:Int))=True:=by simp only [ne_eq,eq_iff_iff,iff_true]; omega
         simp only [Cx,go_sem,AE,AA,AC,AB,KB_n,KB_x,Nat.reduceBEq,Nat.reduceAdd,Nat.reduceLT,Nat.reduceLeDiff,Nat.reduceEqDiff,reduceIte,Int.reduceEq,reduceCtorEq,CI,hq,hm,l0,l1,l2,l3,l4,l5,zx,Nat.zero_add,e1,e2,List.length_map,e3,Bool.not_true,Bool.false_and]
         exact hbr _
       · have e2:((f.kind:Int)≠0)=True:=by simp [a2]
         simp only [Cx,go_sem,AE,AA,AC,AB,KB_n,KB_x,Nat.reduceBEq,Nat.reduceAdd,Nat.reduceLT,Nat.reduceLeDiff,Nat.reduceEqDiff,reduceIte,Int.reduceEq,reduceCtorEq,CI,hq,hm,l0,l1,l2,l3,l4,l5,Nat.zero_add,e1,e2,Bool.not_true,Bool.false_and]
         exact hbr _
     · rw [hk] at l0 hb
       have hb:f.names.length≠f.kids.length:=by simpa using hb
       have e3:((f.names.length:Int)≠(f.kids.length:Int))=True:=by simp only [ne_eq,eq_iff_iff,iff_true]; omega
       simp only [Cx,go_sem,AE,AA,AC,AB,KB_n,KB_x,Nat.reduceBEq,Nat.reduceAdd,Nat.reduceLT,Nat.reduceLeDiff,Nat.reduceEqDiff,reduceIte,Int.reduceEq,reduceCtorEq,CI,hq,hm,l0,l1,l2,l3,l4,l5,zx,Nat.zero_add,e1,List.length_map,e3,Bool.not_true,Bool.false_and]
       exact hbr _

theorem QJ (f : FT) (ho:f.Ok) (s:St) (hw:Wf s):(lim prog).call Dd [.agg f.cells] s=some (.b f.one,s):=by
 refine fn_W Hg rfl rfl ?_
 have H1:=(Hp.begin hw).new (.cells 60 f.cells)
 generalize hq:s.enter.new (.cells 60 f.cells)=q at H1
 generalize hm:s.enter.nb=m at H1
 have l0:=H1.ld 0 (off:=0) (v:=.b f.known) rfl rfl
 have l1:=H1.ld 0 (off:=1) (v:=.i .u8 (f.kind:Nat)) rfl rfl
 have l2:=H1.ld 0 (off:=2) (v:=tx f.names) rfl rfl
 have l3:=H1.ld 0 (off:=3) (v:=zx f.kids) rfl rfl
 have l4:=H1.ld 0 (off:=4) (v:=.i .i64 f.rest) rfl rfl
 have l5:=H1.ld 0 (off:=5) (v:=.i .i64 f.beside) rfl rfl
 have lw:=H1.ldw (m:=6) 0 rfl rfl
 have hz0:wkZ Aa.cin [.agg f.cells]=[.agg f.cells]:=by simp [Aa,wkZ,wk,FT.cells,zx]
 rw [hz0]
 have hbr:∀ b,KR s [.id] (.b b) (some ([.b b],q)):=fun b=>AU H1.over rfl rfl
 have hd:=MF f q H1.wf
 unfold FT.one
 cases hb:f.bad
 · have hnb : ¬ (3 < f.kind)∧((!f.known&&decide (f.kind≠0))=false)∧f.names.length=f.kids.length:=by
    unfold FT.bad at hb
    simp only [Bool.or_eq_false_iff,decide_eq_false_iff_not,Decidable.not_not] at hb
    exact ⟨hb.1,hb.2.1,by simpa using hb.2.2⟩
   obtain ⟨a1,a2,a3⟩:=hnb
   have e1:((3:Int) < (f.kind:Int))=False:=eq_false (by omega)
   have e3:((f.names.length:Int)≠(f.kids.length:Int))=False:=by simp only [ne_eq,eq_iff_iff,iff_false]; omega
   have hx:∃ kn:Bool,f.known=kn∧((kn=false∧((f.kind:Int)≠0)=False)∨(kn=true∧(True=True))):=by
    cases hk:f.known
    · rw [hk] at a2
      exact ⟨_,rfl,.inl ⟨rfl,by simpa using a2⟩⟩
    · exact ⟨_,rfl,.inr ⟨rfl,rfl⟩⟩
   obtain ⟨kn,hk,hx⟩:=hx
   rw [hk] at l0
   rw [Bool.not_false,Bool.true_and]
   cases hi:f.isDir
   · rw [hi] at hd
     rw [RD]
     by_cases d1:f.names.length=0
     · have r1:(((f.names.length:Nat):Int)=0)=True:=by simp [d1]
       by_cases d2:f.rest=0
       · have r2:(f.rest=0)=True:=by simp [d2]
         rw [decide_eq_true d1,decide_eq_true d2,Bool.true_and,Bool.true_and]
         rcases hx with ⟨rfl,e2⟩ | ⟨rfl,e2⟩<;>simp only [Aa,go_sem,AE,AA,AC,AB,KB_n,KB_x,Nat.reduceBEq,Nat.reduceAdd,Nat.reduceLT,Nat.reduceLeDiff,Nat.reduceEqDiff,reduceIte,Int.reduceEq,reduceCtorEq,CI,hq,hm,l0,l1,l2,l3,l4,l5,lw,hd,zx,Nat.zero_add,e1,e2,List.length_map,e3,r1,r2,AW]<;>exact hbr _
       · have r2:(f.rest=0)=False:=by simp [d2]
         rw [decide_eq_true d1,decide_eq_false d2,Bool.false_and,Bool.and_false]
         rcases hx with ⟨rfl,e2⟩ | ⟨rfl,e2⟩<;>simp only [Aa,go_sem,AE,AA,AC,AB,KB_n,KB_x,Nat.reduceBEq,Nat.reduceAdd,Nat.reduceLT,Nat.reduceLeDiff,Nat.reduceEqDiff,reduceIte,Int.reduceEq,reduceCtorEq,CI,hq,hm,l0,l1,l2,l3,l4,l5,lw,hd,zx,Nat.zero_add,e1,e2,List.length_map,e3,r1,r2,AW]<;>exact hbr _
     · have r1:(((f.names.length:Nat):Int)=0)=False:=eq_false (by omega)
       rw [decide_eq_false d1,Bool.false_and]
       rcases hx with ⟨rfl,e2⟩ | ⟨rfl,e2⟩<;>simp only [Aa,go_sem,AE,AA,AC,AB,KB_n,KB_x,Nat.reduceBEq,Nat.reduceAdd,Nat.reduceLT,Nat.reduceLeDiff,Nat.reduceEqDiff,reduceIte,Int.reduceEq,reduceCtorEq,CI,hq,hm,l0,l1,l2,l3,l4,l5,lw,hd,zx,Nat.zero_add,e1,e2,List.length_map,e3,r1,AW]<;>exact hbr _
   · rw [hi] at hd
     rw [RE]
     have hkt:kn=true:=by
      unfold FT.isDir at hi
      rw [hk] at hi
      cases kn
      · cases hi
      · rfl
     subst hkt
     have hnl:=ho.nlen
     simp only [Aa,go_sem,AE,AA,AC,AB,KB_n,KB_x,Nat.reduceBEq,Nat.reduceAdd,Nat.reduceLT,Nat.reduceLeDiff,Nat.reduceEqDiff,reduceIte,Int.reduceEq,reduceCtorEq,CI,hq,hm,l0,l1,l2,l3,l4,l5,lw,hd,zx,Nat.zero_add,e1,List.length_map,e3,AW]
     refine CH (fun x e q'=>∃ i:Nat,i+x=f.names.length∧q'=q∧ascN none (f.names.take i)=true∧e.get 1=.p m 0∧e.get 3=.i .i64 (i:Nat)) ?_ f.names.length _ _ ?_
     · rintro x e q' ⟨i,hix,rfl,hac,g1,g3⟩
       by_cases h:i < f.names.length
       · have h1:((i:Int) < (f.names.length:Int))=True:=eq_true (by omega)
         obtain ⟨y,hy⟩:∃ y,f.names[i]? = some y:=⟨_,List.getElem?_eq_getElem h⟩
         have hy2:(f.names.map AV.s)[i]? = some (.s y):=by rw [List.getElem?_map,hy]; rfl
         have hym:y∈f.names:=List.mem_of_getElem? hy
         have hnm:=SI y (by have:=(ho.names y hym).2; omega) q'
         have hw1:=A9 (show i+1 < 2^63 by omega)
         have htk:f.names.take (i+1)=f.names.take i++[y]:=by rw [List.take_add_one,hy]; rfl
         have hsn:=MD none (f.names.take i) y
         rw [← htk,hac,Bool.true_and] at hsn
         have hno:ascN none (f.names.take (i+1))=false→ascN none f.names=false:=fun hf=>by
          rw [Bool.eq_false_iff]
          intro ht
          rw [ME none f.names (i+1) ht] at hf
          cases hf
         cases hn1:Fl y with
         | false =>
           rw [hn1] at hnm hsn
           rw [hno hsn,Bool.false_and]
           simp only [go_sem,AE,AA,AC,AB,KB_n,KB_x,Nat.reduceBEq,Nat.reduceAdd,Nat.reduceLT,Nat.reduceLeDiff,Nat.reduceEqDiff,reduceIte,Int.reduceEq,reduceCtorEq,g1,g3,l2,List.length_map,Nat.zero_add,h1,AI,hy2,Ff,Dy,hnm]
           exact hbr _
         | true =>
           rw [hn1] at hnm hsn
           cases i with
           | zero =>
             have h2:((0:Int) < ((0:Nat):Int))=False:=by simp
             have hsn:ascN none (f.names.take (0+1))=true:=by rw [hsn]; simp
             simp only [go_sem,AE,AA,AC,AB,KB_n,KB_x,Nat.reduceBEq,Nat.reduceAdd,Nat.reduceLT,Nat.reduceLeDiff,Nat.reduceEqDiff,reduceIte,Int.reduceEq,reduceCtorEq,g1,g3,l2,List.length_map,Nat.zero_add,h1,AI,hy2,Ff,Dy,hnm,h2,hw1]
             exact ⟨x - 1,by omega,0+1,by omega,hsn,rfl⟩
           | succ i =>
             have h2:((0:Int) < ((i+1:Nat):Int))=True:=eq_true (by omega)
             obtain ⟨z,hz⟩:∃ z,f.names[i]? = some z:=⟨_,List.getElem?_eq_getElem (by omega)⟩
             have hz2:(f.names.map AV.s)[i]? = some (.s z):=by rw [List.getElem?_map,hz]; rfl
             have hsb:IntKind.i64.wrap (((i+1:Nat):Int) - 1)=(i:Int):=by
              rw [show ((i+1:Nat):Int) - 1=(i:Int) by omega]; exact IH (by omega)
             rw [JX hz] at hsn
             have hsn:ascN none (f.names.take (i+1+1))=ltN z y:=by rw [hsn]; simp
             have hle:(ltN y z||beqN y z)=!ltN z y:=MW y z
             cases hzy:ltN z y with
             | false =>
               rw [hzy] at hle hsn
               rw [hno hsn,Bool.false_and]
               simp only [go_sem,AE,AA,AC,AB,KB_n,KB_x,Nat.reduceBEq,Nat.reduceAdd,Nat.reduceLT,Nat.reduceLeDiff,Nat.reduceEqDiff,reduceIte,Int.reduceEq,reduceCtorEq,g1,g3,l2,List.length_map,Nat.zero_add,h1,AI,hy2,Ff,Dy,hnm,h2,hsb,hz2,Ra,hle,Nat.zero_add]
               exact hbr _
             | true =>
               rw [hzy] at hle hsn
               simp only [go_sem,AE,AA,AC,AB,KB_n,KB_x,Nat.reduceBEq,Nat.reduceAdd,Nat.reduceLT,Nat.reduceLeDiff,Nat.reduceEqDiff,reduceIte,Int.reduceEq,reduceCtorEq,g1,g3,l2,List.length_map,Nat.zero_add,h1,AI,hy2,Ff,Dy,hnm,h2,hsb,hz2,Ra,hle,Nat.zero_add,hw1]
               exact ⟨x - 1,by omega,i+1+1,by omega,hsn,rfl⟩
       · have h1:((i:Int) < (f.names.length:Int))=False:=eq_false (by omega)
         rw [List.take_of_length_le (by omega)] at hac
         rw [hac,Bool.true_and]
         unfold FT.restB
         by_cases d1:f.rest=2
         · have r1:(f.rest=2)=True:=by simp [d1]
           rw [if_pos d1]
           by_cases d2:0≤f.beside
           · have r2:((0:Int)≤f.beside)=True:=by simp [d2]
             rw [decide_eq_true d2,Bool.true_and]
             simp only [go_sem,AE,AA,AC,AB,KB_n,KB_x,Nat.reduceBEq,Nat.reduceAdd,Nat.reduceLT,Nat.reduceLeDiff,Nat.reduceEqDiff,reduceIte,Int.reduceEq,reduceCtorEq,g1,g3,h1,l2,l4,l5,List.length_map,Nat.zero_add,r1,r2]
             exact hbr _
           · have r2:((0:Int)≤f.beside)=False:=by simp [d2]
             rw [decide_eq_false d2,Bool.false_and]
             simp only [go_sem,AE,AA,AC,AB,KB_n,KB_x,Nat.reduceBEq,Nat.reduceAdd,Nat.reduceLT,Nat.reduceLeDiff,Nat.reduceEqDiff,reduceIte,Int.reduceEq,reduceCtorEq,g1,g3,h1,l2,l4,l5,List.length_map,Nat.zero_add,r1,r2]
             exact hbr _
         · have r1:(f.rest=2)=False:=by simp [d1]
           rw [if_neg d1]
           by_cases d3:f.rest=0
           · have r3:(f.rest=0)=True:=by simp [d3]
             rw [decide_eq_true d3,Bool.true_or,Bool.true_and]
             simp only [go_sem,AE,AA,AC,AB,KB_n,KB_x,Nat.reduceBEq,Nat.reduceAdd,Nat.reduceLT,Nat.reduceLeDiff,Nat.reduceEqDiff,reduceIte,Int.reduceEq,reduceCtorEq,g1,g3,h1,l2,l4,l5,List.length_map,Nat.zero_add,r1,r3]
             exact hbr _
           · have r3:(f.rest=0)=False:=by simp [d3]
             rw [decide_eq_false d3,Bool.false_or]
             by_cases d4:f.rest=1
             · have r4:(f.rest=1)=True:=by simp [d4]
               rw [decide_eq_true d4,Bool.true_and]
               simp only [go_sem,AE,AA,AC,AB,KB_n,KB_x,Nat.reduceBEq,Nat.reduceAdd,Nat.reduceLT,Nat.reduceLeDiff,Nat.reduceEqDiff,reduceIte,Int.reduceEq,reduceCtorEq,g1,g3,h1,l2,l4,l5,List.length_map,Nat.zero_add,r1,r3,r4]
               exact hbr _
             · have r4:(f.rest=1)=False:=by simp [d4]
               rw [decide_eq_false d4,Bool.false_and]
               simp only [go_sem,AE,AA,AC,AB,KB_n,KB_x,Nat.reduceBEq,Nat.reduceAdd,Nat.reduceLT,Nat.reduceLeDiff,Nat.reduceEqDiff,reduceIte,Int.reduceEq,reduceCtorEq,g1,g3,h1,l2,l4,l5,List.length_map,Nat.zero_add,r1,r3,r4]
               exact hbr _
     · simp only [go_sem,AE,AA,AC,AB,KB_n,KB_x,Nat.reduceBEq,Nat.reduceAdd,Nat.reduceLT,Nat.reduceLeDiff,Nat.reduceEqDiff,reduceIte,Int.reduceEq,reduceCtorEq]
       exact ⟨0,by omega,by simp [ascN],rfl⟩
 · have hkn:f.names.length=(f.names.map AV.s).length:=by simp
   unfold FT.bad at hb
   by_cases a1:3 < f.kind
   · have e1:((3:Int) < (f.kind:Int))=True:=eq_true (by omega)
     simp only [Aa,go_sem,AE,AA,AC,AB,KB_n,KB_x,Nat.reduceBEq,Nat.reduceAdd,Nat.reduceLT,Nat.reduceLeDiff,Nat.reduceEqDiff,reduceIte,Int.reduceEq,reduceCtorEq,CI,hq,hm,l0,l1,l2,l3,l4,l5,Nat.zero_add,e1,Bool.not_true,Bool.false_and]
     exact hbr _
   · have e1:((3:Int) < (f.kind:Int))=False:=eq_false (by omega)
     rw [decide_eq_false a1,Bool.false_or] at hb
     cases hk:f.known
     · rw [hk] at l0 hb
       by_cases a2:f.kind=0
       · have e2:((f.kind:Int)≠0)=False:=by simp [a2]
         have hb:f.names.length≠f.kids.length:=by simpa [a2] using hb
         have e3:((f.names.length:Int)≠(f.kids.length:Int))=True:=by simp only [ne_eq,eq_iff_iff,iff_true]; omega
         simp only [Aa,go_sem,AE,AA,AC,AB,KB_n,KB_x,Nat.reduceBEq,Nat.reduceAdd,Nat.reduceLT,Nat.reduceLeDiff,Nat.reduceEqDiff,reduceIte,Int.reduceEq,reduceCtorEq,CI,hq,hm,l0,l1,l2,l3,l4,l5,zx,Nat.zero_add,e1,e2,List.length_map,e3,Bool.not_true,Bool.false_and]
         exact hbr _
       · have e2:((f.kind:Int)≠0)=True:=by simp [a2]
         simp only [Aa,go_sem,AE,AA,AC,AB,KB_n,KB_x,Nat.reduceBEq,Nat.reduceAdd,Nat.reduceLT,Nat.reduceLeDiff,Nat.reduceEqDiff,reduceIte,Int.reduceEq,reduceCtorEq,CI,hq,hm,l0,l1,l2,l3,l4,l5,Nat.zero_add,e1,e2,Bool.not_true,Bool.false_and]
         exact hbr _
     · rw [hk] at l0 hb
       have hb:f.names.length≠f.kids.length:=by simpa using hb
       have e3:((f.names.length:Int)≠(f.kids.length:Int))=True:=by simp only [ne_eq,eq_iff_iff,iff_true]; omega
       simp only [Aa,go_sem,AE,AA,AC,AB,KB_n,KB_x,Nat.reduceBEq,Nat.reduceAdd,Nat.reduceLT,Nat.reduceLeDiff,Nat.reduceEqDiff,reduceIte,Int.reduceEq,reduceCtorEq,CI,hq,hm,l0,l1,l2,l3,l4,l5,zx,Nat.zero_add,e1,List.length_map,e3,Bool.not_true,Bool.false_and]
       exact hbr _

def O8 (P:Int→Bool) (L:List Int):Int:=match L.findIdx? P with
 | some i=>(i:Int)
 | none => -1
theorem O9 (P:Int→Bool) (L:List Int):(0≤O8 P L)=(L.any P=true):=by
 unfold O8
 cases h:L.findIdx? P with
 | none =>
   rw [List.findIdx?_eq_none_iff] at h
   simp only [eq_iff_iff,List.any_eq_true]
   constructor
   · intro hh; simp at hh
   · rintro ⟨x,hx,hp⟩; rw [h x hx] at hp; cases hp
 | some i =>
   rw [List.findIdx?_eq_some_iff_getElem] at h
   obtain ⟨h1,h2,_⟩:=h
   simp only [eq_iff_iff,List.any_eq_true]
   exact ⟨fun _=>⟨L[i],List.getElem_mem h1,h2⟩,fun _=>by omega⟩
theorem RF {P:Int→Bool} {L:List Int} {i:Nat} {z:Int} (h:L[i]? = some z) (hz:P z=true) (hb:∀ j,j < i→∀ y,L[j]? = some y→P y=false):O8 P L=(i:Int):=by
 have:L.findIdx? P=some i:=by
  rw [List.findIdx?_eq_some_iff_getElem]
  obtain ⟨h1,h2⟩:=List.getElem?_eq_some_iff.1 h
  refine ⟨h1,by rw [h2]; exact hz,fun j hj=>?_⟩
  rw [hb j hj L[j] (List.getElem?_eq_getElem (by omega))]
  simp
 unfold O8
 rw [this]
theorem RH {P:Int→Bool} {L:List Int} (hb:∀ j,j < L.length→∀ y,L[j]? = some y→P y=false):O8 P L = -1:=by
 have:L.findIdx? P=none:=by
  rw [List.findIdx?_eq_none_iff]
  intro x hx
  obtain ⟨j,hj,rfl⟩:=List.mem_iff_getElem.1 hx
  exact hb j hj _ (List.getElem?_eq_getElem hj)
 unfold O8
 rw [this]
theorem JY {L:List Int} {i:Nat} {z:Int} (h:L[i]? = some z):(L.map iv)[i]? = some (.i .i64 z):=by
 rw [List.getElem?_map,h]; rfl
theorem CK (z:Int):(AV.i .i64 z).cells=[.i .i64 z]:=rfl
theorem Nx {s q:St} (h:Over s q) {id:Nat} (hid:id < s.nb):q.box? id=s.box? id:=by
 have h1:=h.nb
 have e1:Nat.blt id q.nb=true:=by rw [Nat.blt_eq]; omega
 have e2:Nat.blt id s.nb=true:=by rw [Nat.blt_eq]; exact hid
 simp only [St.box?,e1,e2,cond_true,← h.boxes,List.getElem?_drop]
 congr 1
 omega
theorem Ny {s q:St} (h:Over s q) {id T off:Nat} {cs:List AV} {v:AV} (hid:id < s.nb) (hb:s.box? id=some (.cells T cs)) (hc:cs[off]? = some v):ldA q false 1 (.p id off)=some v :=
 JM (by rw [Nx h hid]; exact hb) hc
theorem PA (L:List Int) (hL:L.length < 2^62) (g:Nat) (caps:List AV) (P:Int→Bool) (s:St) (hw:Wf s) (hP:∀ z∈L,Dk (lim prog) (.fn g caps) [.i .i64 z] s.enter=some (.b (P z),s.enter)) :
    (lim prog).call B7 [zx L,.fn g caps] s=some (.i .i64 (O8 P L),s):=by
 refine fn_W Ds rfl rfl ?_
 have hz0:wkZ AZ.cin [zx L,.fn g caps]=[zx L,.fn g caps]:=by simp [AZ,wkZ,wk,zx,Rp]
 rw [hz0]
 simp only [AZ,go_sem,AE,AA,AC,AB,KB_n,KB_x,Nat.reduceBEq,Nat.reduceAdd,Nat.reduceLT,Nat.reduceLeDiff,Nat.reduceEqDiff,reduceIte,Int.reduceEq,reduceCtorEq,zx,List.length_map]
 refine CH (fun x e q=>∃ i:Nat,i+x=L.length∧q=s.enter∧(∀ j,j < i→∀ y,L[j]? = some y→P y=false)∧e.get 0=zx L∧e.get 1=.fn g caps∧e.get 7=.i .i64 (L.length:Nat)∧e.get 8=.i .i64 (i:Nat)) ?_ L.length _ _ ?_
 · rintro x e q ⟨i,hi,rfl,hb,g0,g1,g7,g8⟩
   by_cases h:i < L.length
   · have h1:((i:Int) < (L.length:Int))=True:=eq_true (by omega)
     obtain ⟨z,hz⟩:∃ z,L[i]? = some z:=⟨_,List.getElem?_eq_getElem h⟩
     have hz2:=JY hz
     have hc:=hP z (List.mem_of_getElem? hz)
     have hw1:=A9 (show i+1 < 2^63 by omega)
     cases hp:P z with
     | true =>
       rw [hp] at hc
       rw [RF hz hp hb]
       simp only [go_sem,AE,AA,AC,AB,KB_n,KB_x,Nat.reduceBEq,Nat.reduceAdd,Nat.reduceLT,Nat.reduceLeDiff,Nat.reduceEqDiff,reduceIte,Int.reduceEq,reduceCtorEq,g0,g1,g7,g8,zx,h1,AI,hz2,CK,Dy,hc]
       exact AU (Over.enter s) rfl rfl
     | false =>
       rw [hp] at hc
       simp only [go_sem,AE,AA,AC,AB,KB_n,KB_x,Nat.reduceBEq,Nat.reduceAdd,Nat.reduceLT,Nat.reduceLeDiff,Nat.reduceEqDiff,reduceIte,Int.reduceEq,reduceCtorEq,g0,g1,g7,g8,zx,h1,AI,hz2,CK,Dy,hc,hw1]
       refine ⟨x - 1,by omega,i+1,by omega,fun j hj y hy=>?_,rfl⟩
       rcases Nat.lt_or_ge j i with hlt | hge
       · exact hb j hlt y hy
       · obtain rfl:j=i:=by omega
         rw [hz] at hy; cases hy; exact hp
   · have h1:((i:Int) < (L.length:Int))=False:=eq_false (by omega)
     rw [RH fun j hj=>hb j (by omega)]
     simp only [go_sem,AE,AA,AC,AB,KB_n,KB_x,Nat.reduceBEq,Nat.reduceAdd,Nat.reduceLT,Nat.reduceLeDiff,Nat.reduceEqDiff,reduceIte,Int.reduceEq,reduceCtorEq,g0,g1,g7,g8,h1]
     exact AU (Over.enter s) rfl rfl
 · simp only [go_sem,AE,AA,AC,AB,KB_n,KB_x,Nat.reduceBEq,Nat.reduceAdd,Nat.reduceLT,Nat.reduceLeDiff,Nat.reduceEqDiff,reduceIte,Int.reduceEq,reduceCtorEq]
   exact ⟨0,by omega,fun j hj=>by omega,rfl,rfl⟩
theorem MG (L:List Int) (hL:L.length < 2^62) (g:Nat) (caps:List AV) (P:Int→Bool) (s:St) (hw:Wf s) (hP:∀ z∈L,Dk (lim prog) (.fn g caps) [.i .i64 z] s.enter=some (.b (P z),s.enter)) :
    (lim prog).call BO [zx L,.fn g caps] s=some (.b (L.any P),s):=by
 refine fn_W DS rfl rfl ?_
 have hz0:wkZ AN.cin [zx L,.fn g caps]=[zx L,.fn g caps]:=by simp [AN,wkZ,wk,zx,Rp]
 have h1:=PA L hL g caps P s.enter hw.enter hP
 rw [hz0]
 unfold zx at h1
 simp only [AN,go_sem,AE,AA,AC,AB,KB_n,KB_x,Nat.reduceBEq,Nat.reduceAdd,Nat.reduceLT,Nat.reduceLeDiff,Nat.reduceEqDiff,reduceIte,Int.reduceEq,reduceCtorEq,h1,zx,O9]
 exact AU (Over.enter s) rfl (by cases h:L.any P<;>rfl)
theorem Nz (L:List Int) (hL:L.length < 2^62) (g:Nat) (caps:List AV) (P:Int→Bool) (s:St) (hw:Wf s) {id off T:Nat} {p:Nat×Bool} {cs:List AV} (hid:id < s.nb) (hbx:s.box? id=some (.cells T cs)) (hcs:∀ i z,L[i]? = some z→cs[off+i]? = some (.i .i64 z)) (hP:∀ z∈L,Dk (lim prog) (.fn g caps) [.i .i64 z] s.enter=some (.b (P z),s.enter)) :
    (lim prog).call B7 [AV.bl id 1 off L.length p,.fn g caps] s=some (.i .i64 (O8 P L),s):=by
 refine fn_W Ds rfl rfl ?_
 have hz0:wkZ AZ.cin [AV.bl id 1 off L.length p,.fn g caps]=[AV.bl id 1 off L.length p,.fn g caps]:=by simp [AZ,wkZ,wk]
 rw [hz0]
 simp only [AZ,go_sem,AE,AA,AC,AB,KB_n,KB_x,Nat.reduceBEq,Nat.reduceAdd,Nat.reduceLT,Nat.reduceLeDiff,Nat.reduceEqDiff,reduceIte,Int.reduceEq,reduceCtorEq]
 refine CH (fun x e q=>∃ i:Nat,i+x=L.length∧q=s.enter∧(∀ j,j < i→∀ y,L[j]? = some y→P y=false)∧e.get 0=AV.bl id 1 off L.length p∧e.get 1=.fn g caps∧e.get 7=.i .i64 (L.length:Nat)∧e.get 8=.i .i64 (i:Nat)) ?_ L.length _ _ ?_
 · rintro x e q ⟨i,hi,rfl,hb,g0,g1,g7,g8⟩
   by_cases h:i < L.length
   · have h1:((i:Int) < (L.length:Int))=True:=eq_true (by omega)
     obtain ⟨z,hz⟩:∃ z,L[i]? = some z:=⟨_,List.getElem?_eq_getElem h⟩
     have hz2:=Ny (Over.enter s) (off:=off+i) (v:=.i .i64 z) hid hbx (hcs i z hz)
     have hlt:(i < L.length)=True:=by simp [h]
     have hc:=hP z (List.mem_of_getElem? hz)
     have hw1:=A9 (show i+1 < 2^63 by omega)
     cases hp:P z with
     | true =>
       rw [hp] at hc
       rw [RF hz hp hb]
       simp only [go_sem,AE,AA,AC,AB,KB_n,KB_x,Nat.reduceBEq,Nat.reduceAdd,Nat.reduceLT,Nat.reduceLeDiff,Nat.reduceEqDiff,reduceIte,Int.reduceEq,reduceCtorEq,g0,g1,g7,g8,h1,AI,hlt,Nat.mul_one,hz2,hc]
       exact AU (Over.enter s) rfl rfl
     | false =>
       rw [hp] at hc
       simp only [go_sem,AE,AA,AC,AB,KB_n,KB_x,Nat.reduceBEq,Nat.reduceAdd,Nat.reduceLT,Nat.reduceLeDiff,Nat.reduceEqDiff,reduceIte,Int.reduceEq,reduceCtorEq,g0,g1,g7,g8,h1,AI,hlt,Nat.mul_one,hz2,hc,hw1]
       refine ⟨x - 1,by omega,i+1,by omega,fun j hj y hy=>?_,rfl⟩
       rcases Nat.lt_or_ge j i with hlt | hge
       · exact hb j hlt y hy
       · obtain rfl:j=i:=by omega
         rw [hz] at hy; cases hy; exact hp
   · have h1:((i:Int) < (L.length:Int))=False:=eq_false (by omega)
     rw [RH fun j hj=>hb j (by omega)]
     simp only [go_sem,AE,AA,AC,AB,KB_n,KB_x,Nat.reduceBEq,Nat.reduceAdd,Nat.reduceLT,Nat.reduceLeDiff,Nat.reduceEqDiff,reduceIte,Int.reduceEq,reduceCtorEq,g0,g1,g7,g8,h1]
     exact AU (Over.enter s) rfl rfl
 · simp only [go_sem,AE,AA,AC,AB,KB_n,KB_x,Nat.reduceBEq,Nat.reduceAdd,Nat.reduceLT,Nat.reduceLeDiff,Nat.reduceEqDiff,reduceIte,Int.reduceEq,reduceCtorEq]
   exact ⟨0,by omega,fun j hj=>by omega,rfl⟩
theorem Kf (L:List Int) (hL:L.length < 2^62) (g:Nat) (caps:List AV) (P:Int→Bool) (s:St) (hw:Wf s) {id off T:Nat} {p:Nat×Bool} {cs:List AV} (hid:id < s.nb) (hbx:s.box? id=some (.cells T cs)) (hcs:∀ i z,L[i]? = some z→cs[off+i]? = some (.i .i64 z)) (hP:∀ z∈L,Dk (lim prog) (.fn g caps) [.i .i64 z] s.enter=some (.b (P z),s.enter)) :
    (lim prog).call BO [AV.bl id 1 off L.length p,.fn g caps] s=some (.b (L.any P),s):=by
 refine fn_W DS rfl rfl ?_
 have hz0:wkZ AN.cin [AV.bl id 1 off L.length p,.fn g caps]=[AV.bl id 1 off L.length p,.fn g caps]:=by simp [AN,wkZ,wk]
 have h1:=Nz L hL g caps P s.enter hw.enter (p:=p) hid hbx hcs hP
 rw [hz0]
 simp only [AN,go_sem,AE,AA,AC,AB,KB_n,KB_x,Nat.reduceBEq,Nat.reduceAdd,Nat.reduceLT,Nat.reduceLeDiff,Nat.reduceEqDiff,reduceIte,Int.reduceEq,reduceCtorEq,h1,O9]
 exact AU (Over.enter s) rfl (by cases h:L.any P<;>rfl)

def cnts (n:Nat) (P:List Int):List AV:=(List.range n).map fun j=>.i .i64 ((P.count ((j:Nat):Int):Nat):Int)
theorem RI:∀ n,repL n [.i .i64 0]=cnts n []
 | 0=>rfl
 | n+1=>by
   have h1:∀ m,cnts m []=List.replicate m (.i .i64 0):=fun m=>by
    unfold cnts
    apply List.ext_getElem?
    intro j
    rw [List.getElem?_map,List.getElem?_replicate]
    by_cases hj:j < m
    · rw [List.getElem?_range hj,if_pos hj]; rfl
    · rw [List.getElem?_eq_none (by simpa using hj),if_neg hj]; rfl
   rw [repL,RI n,h1,h1]; rfl
theorem Ku (n:Nat) (P:List Int):(cnts n P).length=n:=by simp [cnts]
theorem JZ {n j:Nat} {P:List Int} (h:j < n):(cnts n P)[j]? = some (.i .i64 ((P.count (j:Int):Nat):Int)):=by
 unfold cnts
 rw [List.getElem?_map,List.getElem?_range h]; rfl
theorem Vs {n k:Nat} {P:List Int} (h:k < n):(cnts n P).set k (.i .i64 ((P.count (k:Int)+1:Nat):Int))=cnts n (P++[(k:Int)]):=by
 apply List.ext_getElem?
 intro j
 rw [List.getElem?_set]
 by_cases hj:k=j
 · subst hj
   rw [if_pos rfl,if_pos (by rw [Ku]; exact h),JZ h]
   simp [List.count_append]
 · rw [if_neg hj]
   by_cases hjn:j < n
   · rw [JZ hjn,JZ hjn,List.count_append]
     have:List.count (j:Int) [(k:Int)]=0:=by
      rw [List.count_eq_zero]
      simp only [List.mem_singleton]
      omega
     rw [this]; rfl
   · rw [List.getElem?_eq_none (by rw [Ku]; omega),List.getElem?_eq_none (by rw [Ku]; omega)]
def mayP (l:List FT):Bool:=match l with
 | []=>false
 | f::t=>f.isDir&&((f::t).all FT.one&&(IR (f::t).length 0 (f::t)&&O7 (f::t)))
def fine (n i:Nat) (f:FT):Prop:=f.one=true∧∀ k∈f.kids,(i:Int) < k∧k < (n:Int)
theorem Vt {f:FT} {t:List FT} {i:Nat} {x:FT} (h:(f::t)[i]? = some x) (hf:¬ fine (f::t).length i x):mayP (f::t)=false:=by
 rw [Bool.eq_false_iff]
 intro hm
 simp only [mayP,Bool.and_eq_true,List.all_eq_true,GJ] at hm
 exact hf ⟨hm.2.1 x (List.mem_of_getElem? h),fun k hk=>by have:=hm.2.2.1 i x h k hk; simpa using this⟩
theorem Vu {f:FT} {t:List FT} (hd:f.isDir=true) (h:∀ i x,(f::t)[i]? = some x→fine (f::t).length i x):mayP (f::t)=O7 (f::t):=by
 have h1:(f::t).all FT.one=true:=by
  rw [List.all_eq_true]
  intro x hx
  obtain ⟨i,hi,rfl⟩:=List.mem_iff_getElem.1 hx
  exact (h i _ (List.getElem?_eq_getElem hi)).1
 have h2:IR (f::t).length 0 (f::t)=true:=GJ.2 fun a g hg k hk=>by
  have:=(h a g hg).2 k hk
  simpa using this
 simp only [mayP,hd,h1,h2,Bool.true_and]
theorem Vv (l:List FT) (hl:0 < l.length):O7 l=!((List.range (l.length - 1)).map fun j:Nat=>((cntK l ((j:Int)+1):Nat):Int)).any fun z=>decide (z≠1):=by
 unfold O7
 rw [List.any_map,List.not_any_eq_all_not]
 congr 1
 funext j
 simp only [Function.comp]
 rw [Bool.eq_iff_iff]
 simp
 omega
theorem YI (z:Int) (s:St):(lim prog).call Gk [.i .i64 z] s=some (.b (decide (z≠1)),s):=by
 refine fn_W QE rfl rfl ?_
 simp only [FZ,go_sem,AE,AA,AC,AB,KB_n,KB_x,Nat.reduceBEq,Nat.reduceAdd,Nat.reduceLT,Nat.reduceLeDiff,Nat.reduceEqDiff,reduceIte,Int.reduceEq,reduceCtorEq]
 exact AU (Over.enter s) rfl rfl
theorem FJ {l:List FT} {i:Nat} {f:FT} (h:l[i]? = some f):flatK (l.take (i+1))=flatK (l.take i)++f.kids:=by
 unfold flatK
 rw [List.take_add_one,h]
 simp

theorem RJ (l:List FT) (i:Nat):(flatK (l.take i)).length≤(flatK l).length:=by
 have:flatK l=flatK (l.take i)++flatK (l.drop i):=by
  unfold flatK
  rw [← List.flatten_append,← List.map_append,List.take_append_drop]
 rw [this,List.length_append]
 omega
theorem may_ok (l : List FT) (ho:∀ f∈l,f.Ok) (hl:l.length < 2^34) (hB:(flatK l).length < 2^62) (s:St) (hw:Wf s):(lim prog).call EN [fx l] s=some (.b (mayP l),s):=by
 refine fn_W O2 rfl rfl ?_
 have hz0:wkZ EP.cin [fx l]=[fx l]:=by
  simp only [EP,wkZ,fx,wk]
 rw [hz0]
 cases hl0:l with
 | nil =>
   have r1:(((List.map FT.av []).length:Int)=0)=True:=by simp
   simp only [EP,go_sem,AE,AA,AC,AB,KB_n,KB_x,Nat.reduceBEq,Nat.reduceAdd,Nat.reduceLT,Nat.reduceLeDiff,Nat.reduceEqDiff,reduceIte,Int.reduceEq,reduceCtorEq,fx,r1]
   exact AU (Over.enter s) rfl rfl
 | cons f t =>
   have hmay:mayP (f::t)=mayP l:=by rw [hl0]
   have hdef:f.isDir=false→mayP l=false:=fun h=>by rw [hl0,mayP,h]; rfl
   have hf0:l[0]? = some f:=by rw [hl0]; rfl
   have hpos:0 < l.length:=by rw [hl0]; simp
   rw [hmay,← hl0]
   clear hmay
   have r1:((l.length:Int)=0)=False:=eq_false (by omega)
   have hget:=Fc hf0
   have hd:=Wm f s.enter hw.enter
   cases hi:f.isDir
   · rw [hi] at hd
     rw [hdef hi]
     simp only [EP,go_sem,AE,AA,AC,AB,KB_n,KB_x,Nat.reduceBEq,Nat.reduceAdd,Nat.reduceLT,Nat.reduceLeDiff,Nat.reduceEqDiff,reduceIte,Int.reduceEq,reduceCtorEq,fx,List.length_map,r1,PO,hget,Bx,Ax,AW,hd]
     exact AU (Over.enter s) rfl rfl
   · rw [hi] at hd
     have hmk:(0≤(l.length:Int)∧(l.length:Int)≤(l.length:Int)∧(l.length:Int)*(1:Nat) < 2^38∧(l.length:Int) < 2^38)=True:=by
      simp only [eq_iff_iff,iff_true]; omega
     simp only [EP,go_sem,AE,AA,AC,AB,KB_n,KB_x,Nat.reduceBEq,Nat.reduceAdd,Nat.reduceLT,Nat.reduceLeDiff,Nat.reduceEqDiff,reduceIte,Int.reduceEq,reduceCtorEq,fx,List.length_map,r1,PO,hget,Bx,Ax,AW,hd,hmk,Int.toNat_natCast,RI,Nat.mul_one]
     have H0:=(Hp.begin hw).new (.cells 3 (cnts l.length []))
     generalize hq0:s.enter.new (.cells 3 (cnts l.length []))=q0 at H0
     generalize hm:s.enter.nb=m at H0
     refine CH (fun x e q=>∃ i:Nat,i+x=l.length∧Hp s q s.en [] [(m,.cells 3 (cnts l.length (flatK (l.take i))))]∧(∀ a g,a < i→l[a]? = some g→fine l.length a g)∧e.get 0=fx l∧e.get 3=.bl m 1 0 l.length (l.length,true)∧e.get 21=fx l∧e.get 22=.i .i64 (l.length:Nat)∧e.get 23=.i .i64 (i:Nat)) ?_ l.length _ _ ?_
     · rintro x e q ⟨i,hix,H,hfi,g0,g3,g21,g22,g23⟩
       by_cases h:i < l.length
       · have h1 : ((i:Int) < (l.length:Int))=True:=eq_true (by omega)
         obtain ⟨g,hg⟩:∃ g,l[i]? = some g:=⟨_,List.getElem?_eq_getElem h⟩
         have hg2:=Fc hg
         have hgo:=ho g (List.mem_of_getElem? hg)
         have hw1:=A9 (show i+1 < 2^63 by omega)
         obtain ⟨q1,d1,H1,n1⟩:=H.adp (T:=60) (m:=6) (z:=[.b false,.i .u8 0,.nsl,.nsl,.i .i64 0,.i .i64 0]) (v:=.agg g.cells) rfl ⟨rfl,rfl⟩
         generalize hb:q.nb=b at d1 H1
         have hone:=one_ok g hgo q1 H1.wf
         have lw:=H1.ldw (m:=6) 0 rfl rfl
         have l3:=H1.ld 0 (off:=3) (v:=zx g.kids) rfl rfl
         have hno:¬ fine l.length i g→mayP l=false:=fun hn=>by rw [hl0] at hg hn ⊢; exact Vt hg hn
         cases ho1:g.one
         · rw [ho1] at hone
           rw [hno fun hh=>by rw [hh.1] at ho1; cases ho1]
           simp only [go_sem,AE,AA,AC,AB,KB_n,KB_x,Nat.reduceBEq,Nat.reduceAdd,Nat.reduceLT,Nat.reduceLeDiff,Nat.reduceEqDiff,reduceIte,Int.reduceEq,reduceCtorEq,g0,g3,g21,g22,g23,fx,h1,AI,hg2,Bx,Ax,AW,d1,hb,lw,hone]
           exact AU H1.over rfl rfl
         · rw [ho1] at hone
           simp only [go_sem,AE,AA,AC,AB,KB_n,KB_x,Nat.reduceBEq,Nat.reduceAdd,Nat.reduceLT,Nat.reduceLeDiff,Nat.reduceEqDiff,reduceIte,Int.reduceEq,reduceCtorEq,g0,g3,g21,g22,g23,fx,h1,AI,hg2,Bx,Ax,AW,d1,hb,lw,hone,l3,Nat.zero_add,zx,List.length_map]
           refine CH (fun y e q'=>∃ c:Nat,c+y=g.kids.length∧Hp s q' s.en [] [(b,.cells 60 g.cells),(m,.cells 3 (cnts l.length (flatK (l.take i)++g.kids.take c)))]∧(∀ k∈g.kids.take c,(i:Int) < k∧k < (l.length:Int))∧e.get 0=fx l∧e.get 3=.bl m 1 0 l.length (l.length,true)∧e.get 21=fx l∧e.get 22=.i .i64 (l.length:Nat)∧e.get 23=.i .i64 (i:Nat)∧e.get 4=.i .i64 (i:Nat)∧e.get 32=zx g.kids∧e.get 33=.i .i64 (g.kids.length:Nat)∧e.get 34=.i .i64 (c:Nat)) ?_ g.kids.length _ _ ?_
           · clear g0 g3 g21 g22 g23
             rintro y e q' ⟨c,hcy,H,hfk,g0,g3,g21,g22,g23,g4,g32,g33,g34⟩
             by_cases hc:c < g.kids.length
             · have c1:((c:Int) < (g.kids.length:Int))=True:=eq_true (by omega)
               obtain ⟨k,hk⟩:∃ k,g.kids[c]? = some k:=⟨_,List.getElem?_eq_getElem hc⟩
               have hk2:=JY hk
               have hkm:=List.mem_of_getElem? hk
               have hw2:=A9 (show c+1 < 2^63 by have:=hgo.klen; omega)
               by_cases k1:k≤(i:Int)
               · have e1:(k≤(i:Int))=True:=by simp [k1]
                 rw [hno fun hh=>by have:=(hh.2 k hkm).1; omega]
                 simp only [go_sem,AE,AA,AC,AB,KB_n,KB_x,Nat.reduceBEq,Nat.reduceAdd,Nat.reduceLT,Nat.reduceLeDiff,Nat.reduceEqDiff,reduceIte,Int.reduceEq,reduceCtorEq,g0,g3,g21,g22,g23,g4,g32,g33,g34,zx,c1,AI,hk2,CK,Dy,e1]
                 exact AU H.over rfl rfl
               · have e1:(k≤(i:Int))=False:=by simp [k1]
                 by_cases k2:(l.length:Int)≤k
                 · have e2:((l.length:Int)≤k)=True:=by simp [k2]
                   rw [hno fun hh=>by have:=(hh.2 k hkm).2; omega]
                   simp only [go_sem,AE,AA,AC,AB,KB_n,KB_x,Nat.reduceBEq,Nat.reduceAdd,Nat.reduceLT,Nat.reduceLeDiff,Nat.reduceEqDiff,reduceIte,Int.reduceEq,reduceCtorEq,g0,g3,g21,g22,g23,g4,g32,g33,g34,fx,zx,List.length_map,c1,AI,hk2,CK,Dy,e1,e2]
                   exact AU H.over rfl rfl
                 · have e2:((l.length:Int)≤k)=False:=by simp [k2]
                   obtain ⟨j,rfl⟩:∃ j:Nat,k=(j:Int):=⟨k.toNat,by omega⟩
                   have hj:j < l.length:=by omega
                   have hlt:(j < l.length)=True:=by simp [hj]
                   have lj:=H.ld 1 (off:=j) (v:=_) rfl (JZ hj)
                   obtain ⟨q2,d2,H2,n2,_⟩:=H.st 1 (off:=j) (v:=.i .i64 (((flatK (l.take i)++g.kids.take c).count (j:Int)+1:Nat):Int)) rfl (by rw [Ku]; exact hj) ⟨rfl,rfl⟩
                   have hth:∀ u:St,FO u (.bl m 1 0 l.length (l.length,true))=some (.bl m 1 0 l.length (l.length,true),u):=fun _=>rfl
                   have hcnt:(flatK (l.take i)++g.kids.take c).count (j:Int) < 2^62:=by
                    have a1:=List.count_le_length (a:=(j:Int)) (l:=flatK (l.take i)++g.kids.take c)
                    have a2:=RJ l (i+1)
                    rw [FJ hg] at a2
                    simp only [List.length_append,List.length_take] at a1 a2
                    omega
                   have hw3:=A9 (show (flatK (l.take i)++g.kids.take c).count (j:Int)+1 < 2^63 by omega)
                   simp only [go_sem,AE,AA,AC,AB,KB_n,KB_x,Nat.reduceBEq,Nat.reduceAdd,Nat.reduceLT,Nat.reduceLeDiff,Nat.reduceEqDiff,reduceIte,Int.reduceEq,reduceCtorEq,g0,g3,g21,g22,g23,g4,g32,g33,g34,fx,zx,List.length_map,c1,AI,hk2,CK,Dy,e1,e2,hlt,Nat.zero_add,Nat.mul_one,lj,hth,hw3,d2,hw2]
                   rw [Vs hj] at H2
                   have htk:g.kids.take (c+1)=g.kids.take c++[(j:Int)]:=by rw [List.take_add_one,hk]; rfl
                   refine ⟨y - 1,by omega,c+1,by omega,?_,?_,?_⟩
                   · rw [htk,← List.append_assoc]; exact H2
                   · intro k' hk'
                     rw [htk] at hk'
                     rcases List.mem_append.1 hk' with h' | h'
                     · exact hfk k' h'
                     · rw [List.mem_singleton] at h'; subst h'; omega
                   rfl
             · have c1:((c:Int) < (g.kids.length:Int))=False:=eq_false (by omega)
               have htc:g.kids.take c=g.kids:=List.take_of_length_le (by omega)
               rw [htc] at H hfk
               rw [← FJ hg] at H
               simp only [go_sem,AE,AA,AC,AB,KB_n,KB_x,Nat.reduceBEq,Nat.reduceAdd,Nat.reduceLT,Nat.reduceLeDiff,Nat.reduceEqDiff,reduceIte,Int.reduceEq,reduceCtorEq,g0,g3,g21,g22,g23,g4,g32,g33,g34,c1,hw1]
               refine ⟨x - 1,by omega,i+1,by omega,H.dropB,fun a g' ha hg'=>?_,rfl,rfl,rfl⟩
               rcases Nat.lt_or_ge a i with hlt | hge
               · exact hfi a g' hlt hg'
               · obtain rfl:a=i:=by omega
                 rw [hg] at hg'; cases hg'
                 exact ⟨ho1,hfk⟩
           · simp only [go_sem,AE,AA,AC,AB,KB_n,KB_x,Nat.reduceBEq,Nat.reduceAdd,Nat.reduceLT,Nat.reduceLeDiff,Nat.reduceEqDiff,reduceIte,Int.reduceEq,reduceCtorEq]
             refine ⟨0,by omega,?_,fun k hk=>by simp at hk,?_⟩
             · rw [List.take_zero,List.append_nil]; exact H1
             exact ⟨g0,g3,g21,g22,g23,rfl,rfl⟩
       · have h1:((i:Int) < (l.length:Int))=False:=eq_false (by omega)
         rw [List.take_of_length_le (by omega)] at H
         have hs:Bv q false 1 (.bl m 1 0 l.length (l.length,true)) (some (.i .i64 1)) none none=some (.bl m 1 1 (l.length - 1) (l.length,true),q):=by
          have hbd:CS l.length (some (.i .i64 1)) none=some (1,l.length):=by
           show (if 1≤l.length∧l.length≤l.length then some (1,l.length) else none)=_
           rw [if_pos ⟨by omega,by omega⟩]
          simp only [Bv,Option.isSome_none,if_true,Bool.false_eq_true,if_false,hbd]
         have hbx:=H.box (i:=0) rfl
         have hc:=Kf ((List.range (l.length - 1)).map fun j:Nat=>((cntK l ((j:Int)+1):Nat):Int)) (by simp; omega) Gk [] (fun z=>decide (z≠1)) q H.wf (id:=m) (off:=1) (p:=(l.length,true)) hbx.2.2 hbx.1 (fun j z hz=>by
          rw [List.getElem?_map] at hz
          have hj:j < l.length - 1:=by
           by_cases hj:j < l.length - 1
           · exact hj
           · rw [List.getElem?_eq_none (by simpa using hj)] at hz; cases hz
          rw [List.getElem?_range hj] at hz
          cases hz
          rw [JZ (show 1+j < l.length by omega),show (((1+j:Nat):Int))=(j:Int)+1 by omega]
          rfl) (fun z _=>YI z q.enter)
         rw [List.length_map,List.length_range] at hc
         simp only [go_sem,AE,AA,AC,AB,KB_n,KB_x,Nat.reduceBEq,Nat.reduceAdd,Nat.reduceLT,Nat.reduceLeDiff,Nat.reduceEqDiff,reduceIte,Int.reduceEq,reduceCtorEq,g0,g3,g21,g22,g23,h1,hs,hc]
         refine AU H.over rfl ?_
         have hfin:mayP l=O7 l:=by
          rw [hl0]
          exact Vu hi fun a g hg=>by rw [← hl0] at hg ⊢; exact hfi a g (by have:=(List.getElem?_eq_some_iff.1 hg).1; omega) hg
         rw [hfin,Vv l hpos]
         rfl
     · simp only [go_sem,AE,AA,AC,AB,KB_n,KB_x,Nat.reduceBEq,Nat.reduceAdd,Nat.reduceLT,Nat.reduceLeDiff,Nat.reduceEqDiff,reduceIte,Int.reduceEq,reduceCtorEq]
       exact ⟨0,by omega,H0,fun a g ha=>by omega,rfl,rfl,rfl⟩

def Eb (l:List FT) (j:Int):Int:=match Hi l j with
 | some i=>(i:Int)
 | none => -1
def Vw (l:List FT) (P:List Int) (j:Int) (at_:Int):Prop:=(P.count j=0∧at_ = -1)∨(P.count j=1∧∃ (a:Nat) (f:FT),at_=(a:Int)∧l[a]? = some f∧j∈f.kids)
theorem T6 {l:List FT} {j:Int} (h:2≤cntK l j):Eb l j = -1:=by
 unfold Eb Hi
 rw [if_neg (by omega)]
theorem T7 {l:List FT} {j at_:Int} (h:Vw l (flatK l) j at_):Eb l j=at_:=by
 rcases h with ⟨h,rfl⟩ | ⟨h,a,f,rfl,hf,hj⟩
 · unfold Eb Hi
   rw [if_neg (by unfold cntK; omega)]
 · unfold Eb
   rw [RC h hf hj]
theorem R8 {l:List FT} {i c:Nat} {f:FT} {k:Int} (h:l[i]? = some f) (hk:f.kids[c]? = some k):∃ S,flatK l=flatK (l.take i)++f.kids.take c++[k]++S:=by
 refine ⟨f.kids.drop (c+1)++flatK (l.drop (i+1)),?_⟩
 have h1:flatK l=flatK (l.take (i+1))++flatK (l.drop (i+1)):=by
  unfold flatK
  rw [← List.flatten_append,← List.map_append,List.take_append_drop]
 have h2:f.kids=f.kids.take c++[k]++f.kids.drop (c+1):=by
  have h3:f.kids.take (c+1)=f.kids.take c++[k]:=by rw [List.take_add_one,hk]; rfl
  rw [← h3,List.take_append_drop]
 rw [h1,FJ h]
 conv=>lhs; rw [h2]
 simp only [List.append_assoc]
theorem Vx (l : List FT) (ho:∀ f∈l,f.Ok) (hl:l.length < 2^34) (j:Int) (s:St) (hw:Wf s):(lim prog).call DI [fx l,.i .i64 j] s=some (.i .i64 (Eb l j),s):=by
 refine fn_W Gq rfl rfl ?_
 have hz0:wkZ Be.cin [fx l,.i .i64 j]=[fx l,.i .i64 j]:=by
  simp only [Be,wkZ,fx,wk]
 have hbr:∀ z,KR s [.id] (.i .i64 z) (some ([.i .i64 z],s.enter)):=fun z=>AU (Over.enter s) rfl rfl
 have hth:∀ u:St,FO u (.ws false 6 (l.map FT.av))=some (.ws false 6 (l.map FT.av),u):=fun _=>rfl
 rw [hz0]
 simp only [Be,go_sem,AE,AA,AC,AB,KB_n,KB_x,Nat.reduceBEq,Nat.reduceAdd,Nat.reduceLT,Nat.reduceLeDiff,Nat.reduceEqDiff,reduceIte,Int.reduceEq,reduceCtorEq]
 refine CH (fun x e q=>∃ i:Nat,i+x=l.length∧q=s.enter∧(∃ at_,Vw l (flatK (l.take i)) j at_∧e.get 5=.i .i64 at_)∧e.get 0=fx l∧e.get 1=.i .i64 j∧e.get 6=.i .i64 (i:Nat)) ?_ l.length _ _ ?_
 · rintro x e q ⟨i,hix,rfl,⟨at_,hat,g5⟩,g0,g1,g6⟩
   by_cases h:i < l.length
   · have h1 : ((i:Int) < (l.length:Int))=True:=eq_true (by omega)
     obtain ⟨g,hg⟩:∃ g,l[i]? = some g:=⟨_,List.getElem?_eq_getElem h⟩
     have hg2:=Fc hg
     have hgo:=ho g (List.mem_of_getElem? hg)
     have hw1:=A9 (show i+1 < 2^63 by omega)
     have l3:∀ u,ldA u false 1 (.ep g.cells 3 .shut)=some (zx g.kids):=fun u=>rfl
     simp only [go_sem,AE,AA,AC,AB,KB_n,KB_x,Nat.reduceBEq,Nat.reduceAdd,Nat.reduceLT,Nat.reduceLeDiff,Nat.reduceEqDiff,reduceIte,Int.reduceEq,reduceCtorEq,g0,g1,g5,g6,fx,List.length_map,h1]
     refine CH (fun y e q=>∃ c:Nat,c+y=g.kids.length∧q=s.enter∧(∃ at_,Vw l (flatK (l.take i)++g.kids.take c) j at_∧e.get 5=.i .i64 at_)∧e.get 0=fx l∧e.get 1=.i .i64 j∧e.get 6=.i .i64 (i:Nat)∧e.get 7=.i .i64 (c:Nat)) ?_ g.kids.length _ _ ?_
     · clear g0 g1 g5 g6 hat at_
       rintro y e q ⟨c,hcy,rfl,⟨at_,hat,g5⟩,g0,g1,g6,g7⟩
       by_cases hc:c < g.kids.length
       · have c1:((c:Int) < (g.kids.length:Int))=True:=eq_true (by omega)
         obtain ⟨k,hk⟩:∃ k,g.kids[c]? = some k:=⟨_,List.getElem?_eq_getElem hc⟩
         have hk2:=JY hk
         have hkm:=List.mem_of_getElem? hk
         have hw2:=A9 (show c+1 < 2^63 by have:=hgo.klen; omega)
         have htk:g.kids.take (c+1)=g.kids.take c++[k]:=by rw [List.take_add_one,hk]; rfl
         by_cases k1:k=j
         · have e1:(k=j)=True:=by simp [k1]
           rcases hat with ⟨h0,rfl⟩ | ⟨h0,a,f,rfl,hf,hj⟩
           · have e2:((0:Int) ≤ -1)=False:=by simp
             simp only [go_sem,AE,AA,AC,AB,KB_n,KB_x,Nat.reduceBEq,Nat.reduceAdd,Nat.reduceLT,Nat.reduceLeDiff,Nat.reduceEqDiff,reduceIte,Int.reduceEq,reduceCtorEq,g0,g1,g5,g6,g7,fx,zx,List.length_map,AI,hg2,Bx,l3,c1,hk2,CK,Dy,hth,e1,e2,hw2]
             refine ⟨y - 1,by omega,c+1,by omega,⟨i,.inr ⟨?_,i,g,rfl,hg,by rw [← k1]; exact hkm⟩,rfl⟩,rfl⟩
             rw [htk,← List.append_assoc,List.count_append,h0,k1]; simp
           · have e2:((0:Int)≤(a:Int))=True:=by simp
             obtain ⟨S,hS⟩:=R8 hg hk
             rw [T6 (by
              unfold cntK
              rw [hS,List.count_append,List.count_append,h0,k1]; simp)]
             simp only [go_sem,AE,AA,AC,AB,KB_n,KB_x,Nat.reduceBEq,Nat.reduceAdd,Nat.reduceLT,Nat.reduceLeDiff,Nat.reduceEqDiff,reduceIte,Int.reduceEq,reduceCtorEq,g0,g1,g5,g6,g7,fx,zx,List.length_map,AI,hg2,Bx,l3,c1,hk2,CK,Dy,hth,e1,e2,hw2]
             exact hbr _
         · have e1:(k=j)=False:=by simp [k1]
           simp only [go_sem,AE,AA,AC,AB,KB_n,KB_x,Nat.reduceBEq,Nat.reduceAdd,Nat.reduceLT,Nat.reduceLeDiff,Nat.reduceEqDiff,reduceIte,Int.reduceEq,reduceCtorEq,g0,g1,g5,g6,g7,fx,zx,List.length_map,AI,hg2,Bx,l3,c1,hk2,CK,Dy,hth,e1,hw2]
           refine ⟨y - 1,by omega,c+1,by omega,⟨at_,?_,rfl⟩,rfl⟩
           have h0:(flatK (l.take i)++g.kids.take (c+1)).count j=(flatK (l.take i)++g.kids.take c).count j:=by
            rw [htk,← List.append_assoc,List.count_append]
            have:List.count j [k]=0:=by rw [List.count_eq_zero]; simp; omega
            omega
           unfold Vw
           rw [h0]; exact hat
       · have c1:((c:Int) < (g.kids.length:Int))=False:=eq_false (by omega)
         have htc:g.kids.take c=g.kids:=List.take_of_length_le (by omega)
         rw [htc,← FJ hg] at hat
         simp only [go_sem,AE,AA,AC,AB,KB_n,KB_x,Nat.reduceBEq,Nat.reduceAdd,Nat.reduceLT,Nat.reduceLeDiff,Nat.reduceEqDiff,reduceIte,Int.reduceEq,reduceCtorEq,g0,g1,g5,g6,g7,fx,zx,List.length_map,AI,hg2,Bx,l3,c1,hth,hw1]
         exact ⟨x - 1,by omega,i+1,by omega,⟨at_,hat,rfl⟩,rfl⟩
     · simp only [go_sem,AE,AA,AC,AB,KB_n,KB_x,Nat.reduceBEq,Nat.reduceAdd,Nat.reduceLT,Nat.reduceLeDiff,Nat.reduceEqDiff,reduceIte,Int.reduceEq,reduceCtorEq]
       exact ⟨0,by omega,⟨at_,by rw [List.take_zero,List.append_nil]; exact hat,g5⟩,g0,g1,g6,rfl⟩
   · have h1:((i:Int) < (l.length:Int))=False:=eq_false (by omega)
     rw [List.take_of_length_le (by omega)] at hat
     rw [T7 hat]
     simp only [go_sem,AE,AA,AC,AB,KB_n,KB_x,Nat.reduceBEq,Nat.reduceAdd,Nat.reduceLT,Nat.reduceLeDiff,Nat.reduceEqDiff,reduceIte,Int.reduceEq,reduceCtorEq,g0,g1,g5,g6,fx,List.length_map,h1]
     exact hbr _
 · simp only [go_sem,AE,AA,AC,AB,KB_n,KB_x,Nat.reduceBEq,Nat.reduceAdd,Nat.reduceLT,Nat.reduceLeDiff,Nat.reduceEqDiff,reduceIte,Int.reduceEq,reduceCtorEq]
   exact ⟨0,by omega,⟨-1,.inl ⟨rfl,rfl⟩,rfl⟩,rfl⟩
theorem Vy (f:FT) (t:List FT):mayP (f::t)=(f.isDir&&((f::t).all FT.one&&(decide ((flatK (f::t)).length=(f::t).length - 1)&&upB (f::t)))):=by
 rw [mayP,YH (f::t) (by simp)]
theorem QK {l:List FT}:upB l=true↔∀ j,1≤j→j < l.length→0≤Eb l (j:Int)∧Eb l (j:Int) < j:=by
 rw [Wl]
 constructor
 · intro h j h1 h2
   obtain ⟨n,e,hn⟩:=h j h1 (by omega)
   unfold Eb
   rw [e]
   exact ⟨by simp,by simp; omega⟩
 · intro h j h1 h2
   have:=h j h1 (by omega)
   unfold Eb at this
   cases e:Hi l (j:Int) with
   | none=>rw [e] at this; simp at this
   | some n=>rw [e] at this; exact ⟨n,rfl,by simp at this; omega⟩
theorem QL (l : List FT) (ho:∀ f∈l,f.Ok) (hl:l.length < 2^34) (hB:(flatK l).length < 2^62) (s:St) (hw:Wf s):(lim prog).call Db [fx l] s=some (.b (mayP l),s):=by
 refine fn_W He rfl rfl ?_
 have hz0:wkZ BI.cin [fx l]=[fx l]:=by
  simp only [BI,wkZ,fx,wk]
 have hbr:∀ b,KR s [.id] (.b b) (some ([.b b],s.enter)):=fun z=>AU (Over.enter s) rfl rfl
 have hth:∀ u:St,FO u (.ws false 6 (l.map FT.av))=some (.ws false 6 (l.map FT.av),u):=fun _=>rfl
 rw [hz0]
 cases hl0:l with
 | nil =>
   have r1:(((List.map FT.av []).length:Int)=0)=True:=by simp
   simp only [BI,go_sem,AE,AA,AC,AB,KB_n,KB_x,Nat.reduceBEq,Nat.reduceAdd,Nat.reduceLT,Nat.reduceLeDiff,Nat.reduceEqDiff,reduceIte,Int.reduceEq,reduceCtorEq,fx,r1]
   exact AU (Over.enter s) rfl rfl
 | cons f t =>
   have hmay:=Vy f t
   rw [← hl0] at hmay ⊢
   rw [hmay]
   have hf0:l[0]? = some f:=by rw [hl0]; rfl
   have hpos:0 < l.length:=by rw [hl0]; simp
   have r1:((l.length:Int)=0)=False:=eq_false (by omega)
   have hget:=Fc hf0
   have hd:=MF f s.enter hw.enter
   cases hi:f.isDir
   · rw [hi] at hd
     simp only [BI,go_sem,AE,AA,AC,AB,KB_n,KB_x,Nat.reduceBEq,Nat.reduceAdd,Nat.reduceLT,Nat.reduceLeDiff,Nat.reduceEqDiff,reduceIte,Int.reduceEq,reduceCtorEq,fx,List.length_map,r1,PO,hget,Bx,Ax,AW,hd,Bool.false_and]
     exact hbr _
   · rw [hi] at hd
     rw [Bool.true_and]
     simp only [BI,go_sem,AE,AA,AC,AB,KB_n,KB_x,Nat.reduceBEq,Nat.reduceAdd,Nat.reduceLT,Nat.reduceLeDiff,Nat.reduceEqDiff,reduceIte,Int.reduceEq,reduceCtorEq,fx,List.length_map,r1,PO,hget,Bx,Ax,AW,hd]
     refine CH (fun x e q=>∃ i:Nat,i+x=l.length∧q=s.enter∧(∀ a g,a < i→l[a]? = some g→g.one=true)∧e.get 0=fx l∧e.get 3=.i .i64 ((flatK (l.take i)).length:Nat)∧e.get 4=.i .i64 (i:Nat)) ?_ l.length _ _ ?_
     · rintro x e q ⟨i,hix,rfl,hon,g0,g3,g4⟩
       by_cases h:i < l.length
       · have h1:((i:Int) < (l.length:Int))=True:=eq_true (by omega)
         obtain ⟨g,hg⟩:∃ g,l[i]? = some g:=⟨_,List.getElem?_eq_getElem h⟩
         have hg2:=Fc hg
         have hgm:=List.mem_of_getElem? hg
         have hgo:=ho g hgm
         have hw1:=A9 (show i+1 < 2^63 by omega)
         have l3:∀ u,ldA u false 1 (.ep g.cells 3 .shut)=some (zx g.kids):=fun u=>rfl
         have hone:=QJ g hgo s.enter hw.enter
         cases ho1:g.one
         · rw [ho1] at hone
           have:l.all FT.one=false:=by
            rw [Bool.eq_false_iff]; intro hh
            rw [List.all_eq_true] at hh
            rw [hh g hgm] at ho1; cases ho1
           rw [this,Bool.false_and]
           simp only [go_sem,AE,AA,AC,AB,KB_n,KB_x,Nat.reduceBEq,Nat.reduceAdd,Nat.reduceLT,Nat.reduceLeDiff,Nat.reduceEqDiff,reduceIte,Int.reduceEq,reduceCtorEq,g0,g3,g4,fx,List.length_map,h1,AI,hg2,Bx,Ax,AW,hone]
           exact hbr _
         · rw [ho1] at hone
           have hfl:=RJ l (i+1)
           have hft:=FJ hg
           have hsum:IntKind.i64.wrap (((flatK (l.take i)).length:Int)+(g.kids.length:Int))=((flatK (l.take (i+1))).length:Int):=by
            rw [hft,List.length_append,show ((flatK (l.take i)).length:Int)+(g.kids.length:Int)=(((flatK (l.take i)).length+g.kids.length:Nat):Int) by omega]
            refine IH ?_
            rw [hft,List.length_append] at hfl
            omega
           simp only [go_sem,AE,AA,AC,AB,KB_n,KB_x,Nat.reduceBEq,Nat.reduceAdd,Nat.reduceLT,Nat.reduceLeDiff,Nat.reduceEqDiff,reduceIte,Int.reduceEq,reduceCtorEq,g0,g3,g4,fx,zx,List.length_map,h1,AI,hg2,Bx,Ax,AW,hone,hth,l3,hsum,hw1]
           refine ⟨x - 1,by omega,i+1,by omega,fun a g' ha hg'=>?_,rfl,rfl⟩
           rcases Nat.lt_or_ge a i with hlt | hge
           · exact hon a g' hlt hg'
           · obtain rfl:a=i:=by omega
             rw [hg] at hg'; cases hg'
             exact ho1
       · have h1 : ((i:Int) < (l.length:Int))=False:=eq_false (by omega)
         rw [List.take_of_length_le (by omega)] at g3
         have hall:l.all FT.one=true:=by
          rw [List.all_eq_true]
          intro g hg
          obtain ⟨a,ha,rfl⟩:=List.mem_iff_getElem.1 hg
          exact hon a _ (by omega) (List.getElem?_eq_getElem ha)
         have hsb:IntKind.i64.wrap ((l.length:Int) - 1)=((l.length - 1:Nat):Int):=by
          rw [show (l.length:Int) - 1=((l.length - 1:Nat):Int) by omega]; exact IH (by omega)
         rw [hall,Bool.true_and]
         by_cases hk:(flatK l).length=l.length - 1
         · have e1 : (((flatK l).length:Int)≠((l.length - 1:Nat):Int))=False:=by simp only [ne_eq,eq_iff_iff,iff_false]; omega
           rw [decide_eq_true hk,Bool.true_and]
           simp only [go_sem,AE,AA,AC,AB,KB_n,KB_x,Nat.reduceBEq,Nat.reduceAdd,Nat.reduceLT,Nat.reduceLeDiff,Nat.reduceEqDiff,reduceIte,Int.reduceEq,reduceCtorEq,g0,g3,g4,fx,List.length_map,h1,hsb,e1]
           refine CH (fun x e q=>∃ i:Nat,1≤i∧i+x=l.length∧q=s.enter∧(∀ j,1≤j→j < i→0≤Eb l (j:Int)∧Eb l (j:Int) < j)∧e.get 0=fx l∧e.get 5=.i .i64 (i:Nat)) ?_ (l.length - 1) _ _ ?_
           · clear hon g0 g3 g4 hix h h1
             rintro x e q ⟨i,hi1,hix,rfl,hup,g0,g5⟩
             by_cases h:i < l.length
             · have h1:((i:Int) < (l.length:Int))=True:=eq_true (by omega)
               have ha:=Vx l ho hl (i:Int) s.enter hw.enter
               have hw1:=A9 (show i+1 < 2^63 by omega)
               unfold fx at ha
               by_cases a1:Eb l (i:Int) < 0
               · have e2:(Eb l (i:Int) < 0)=True:=by simp [a1]
                 have:upB l=false:=by
                  rw [Bool.eq_false_iff]; intro hh
                  have:=(QK.1 hh i hi1 h).1
                  omega
                 rw [this]
                 simp only [go_sem,AE,AA,AC,AB,KB_n,KB_x,Nat.reduceBEq,Nat.reduceAdd,Nat.reduceLT,Nat.reduceLeDiff,Nat.reduceEqDiff,reduceIte,Int.reduceEq,reduceCtorEq,g0,g5,fx,List.length_map,h1,ha,e2]
                 exact hbr _
               · have e2:(Eb l (i:Int) < 0)=False:=by simp only [eq_iff_iff,iff_false]; exact a1
                 by_cases a2:(i:Int)≤Eb l (i:Int)
                 · have e3:((i:Int)≤Eb l (i:Int))=True:=by simp [a2]
                   have:upB l=false:=by
                    rw [Bool.eq_false_iff]; intro hh
                    have:=(QK.1 hh i hi1 h).2
                    omega
                   rw [this]
                   simp only [go_sem,AE,AA,AC,AB,KB_n,KB_x,Nat.reduceBEq,Nat.reduceAdd,Nat.reduceLT,Nat.reduceLeDiff,Nat.reduceEqDiff,reduceIte,Int.reduceEq,reduceCtorEq,g0,g5,fx,List.length_map,h1,ha,e2,e3]
                   exact hbr _
                 · have e3:((i:Int)≤Eb l (i:Int))=False:=by simp only [eq_iff_iff,iff_false]; exact a2
                   simp only [go_sem,AE,AA,AC,AB,KB_n,KB_x,Nat.reduceBEq,Nat.reduceAdd,Nat.reduceLT,Nat.reduceLeDiff,Nat.reduceEqDiff,reduceIte,Int.reduceEq,reduceCtorEq,g0,g5,fx,List.length_map,h1,ha,e2,e3,hw1]
                   refine ⟨x - 1,by omega,i+1,by omega,by omega,fun j h1 h2=>?_,rfl⟩
                   rcases Nat.lt_or_ge j i with hlt | hge
                   · exact hup j h1 hlt
                   · obtain rfl:j=i:=by omega
                     omega
             · have h1:((i:Int) < (l.length:Int))=False:=eq_false (by omega)
               have:upB l=true:=QK.2 fun j h1 h2=>hup j h1 (by omega)
               rw [this]
               simp only [go_sem,AE,AA,AC,AB,KB_n,KB_x,Nat.reduceBEq,Nat.reduceAdd,Nat.reduceLT,Nat.reduceLeDiff,Nat.reduceEqDiff,reduceIte,Int.reduceEq,reduceCtorEq,g0,g5,fx,List.length_map,h1]
               exact hbr _
           · simp only [go_sem,AE,AA,AC,AB,KB_n,KB_x,Nat.reduceBEq,Nat.reduceAdd,Nat.reduceLT,Nat.reduceLeDiff,Nat.reduceEqDiff,reduceIte,Int.reduceEq,reduceCtorEq]
             exact ⟨1,by omega,by omega,fun j h1 h2=>by omega,g0,rfl⟩
         · have e1:(((flatK l).length:Int)≠((l.length - 1:Nat):Int))=True:=by simp only [ne_eq,eq_iff_iff,iff_true]; omega
           rw [decide_eq_false hk,Bool.false_and]
           simp only [go_sem,AE,AA,AC,AB,KB_n,KB_x,Nat.reduceBEq,Nat.reduceAdd,Nat.reduceLT,Nat.reduceLeDiff,Nat.reduceEqDiff,reduceIte,Int.reduceEq,reduceCtorEq,g0,g3,g4,fx,List.length_map,h1,hsb,e1]
           exact hbr _
     · simp only [go_sem,AE,AA,AC,AB,KB_n,KB_x,Nat.reduceBEq,Nat.reduceAdd,Nat.reduceLT,Nat.reduceLeDiff,Nat.reduceEqDiff,reduceIte,Int.reduceEq,reduceCtorEq]
       exact ⟨0,by omega,fun a g ha=>by omega,rfl,rfl,rfl⟩

def Six (G:List (List AV)):Prop:=∀ c∈G,c.length=6
theorem QM (l:List FT):Six (l.map FT.cells):=fun c hc=>by
 obtain ⟨f,_,rfl⟩:=List.mem_map.1 hc
 rfl
theorem MH:∀ G:List (List AV),CU (G.map AV.agg)=G.flatten
 | []=>rfl
 | c::G=>by
   simp only [List.map_cons,CU,MH G,List.flatten_cons]
   rfl
theorem MI {G:List (List AV)} (h:Six G):G.flatten.length=G.length*6:=by
 induction G with
 | nil=>rfl
 | cons c G ih =>
   rw [List.flatten_cons,List.length_append,ih fun x hx=>h x (List.mem_cons_of_mem _ hx),h c List.mem_cons_self,List.length_cons]
   omega
theorem PB:∀ {G:List (List AV)},Six G→FN 6 G.length G.flatten=G.map AV.agg
 | [],_=>rfl
 | c::G,h=>by
   have hc:=h c List.mem_cons_self
   have:=PB (G:=G) fun x hx=>h x (List.mem_cons_of_mem _ hx)
   rw [List.length_cons,FN,if_neg (by decide),List.flatten_cons,List.take_left' hc,List.drop_left' hc,this]
   rfl
theorem Vz {G:List (List AV)} (h:Six G) (i:Nat) (hi:i≤G.length):G.flatten.take (i*6)=(G.take i).flatten:=by
 have:G.flatten=(G.take i).flatten++(G.drop i).flatten:=by rw [← List.flatten_append,List.take_append_drop]
 rw [this]
 refine List.take_left' ?_
 rw [MI fun c hc=>h c (List.mem_of_mem_take hc),List.length_take,Nat.min_eq_left hi]
theorem V0 {G:List (List AV)} (h:Six G) (i:Nat) (hi:i≤G.length):G.flatten.drop (i*6)=(G.drop i).flatten:=by
 have:G.flatten=(G.take i).flatten++(G.drop i).flatten:=by rw [← List.flatten_append,List.take_append_drop]
 rw [this]
 refine List.drop_left' ?_
 rw [MI fun c hc=>h c (List.mem_of_mem_take hc),List.length_take,Nat.min_eq_left hi]
theorem YJ {G:List (List AV)} (h:Six G) {i:Nat} (hi:i < G.length) (c:List AV) (hc:c.length=6):G.flatten.take (i*6)++(c++G.flatten.drop (i*6+c.length))=(G.set i c).flatten:=by
 rw [hc,show i*6+6=(i+1)*6 by omega,Vz h i (by omega),V0 h (i+1) (by omega),List.set_eq_take_append_cons_drop,if_pos hi,List.flatten_append,List.flatten_cons]
def C2 (l:List FT) (n:Int):Int:=if mayP l then (if 0≤n∧n < (l.length:Int) then 0 else 1) else 4
theorem RK (l:List FT) (ho:∀ f∈l,f.Ok) (hl:l.length < 2^34) (hB:(flatK l).length < 2^62) (n:Int) (s:St) (hw:Wf s):(lim prog).call Ao [fx l,.i .i64 n] s=some (.i .i64 (C2 l n),s):=by
 refine fn_W EQ rfl rfl ?_
 have hz0:wkZ Au.cin [fx l,.i .i64 n]=[fx l,.i .i64 n]:=by
  simp only [Au,wkZ,fx,wk]
 have hbr:∀ z,KR s [.id] (.i .i64 z) (some ([.i .i64 z],s.enter)):=fun z=>AU (Over.enter s) rfl rfl
 have hm:=QL l ho hl hB s.enter hw.enter
 rw [hz0]
 unfold fx at hm
 unfold C2
 cases hmay:mayP l
 · rw [hmay] at hm
   simp only [Au,go_sem,AE,AA,AC,AB,KB_n,KB_x,Nat.reduceBEq,Nat.reduceAdd,Nat.reduceLT,Nat.reduceLeDiff,Nat.reduceEqDiff,reduceIte,Int.reduceEq,reduceCtorEq,fx,hm]
   exact hbr _
 · rw [hmay] at hm
   rw [if_pos rfl]
   by_cases n1:n < 0
   · have e1:(n < 0)=True:=by simp [n1]
     rw [if_neg (by omega)]
     simp only [Au,go_sem,AE,AA,AC,AB,KB_n,KB_x,Nat.reduceBEq,Nat.reduceAdd,Nat.reduceLT,Nat.reduceLeDiff,Nat.reduceEqDiff,reduceIte,Int.reduceEq,reduceCtorEq,fx,hm,e1]
     exact hbr _
   · have e1:(n < 0)=False:=by simp only [eq_iff_iff,iff_false]; exact n1
     by_cases n2:(l.length:Int)≤n
     · have e2:((l.length:Int)≤n)=True:=by simp [n2]
       rw [if_neg (by omega)]
       simp only [Au,go_sem,AE,AA,AC,AB,KB_n,KB_x,Nat.reduceBEq,Nat.reduceAdd,Nat.reduceLT,Nat.reduceLeDiff,Nat.reduceEqDiff,reduceIte,Int.reduceEq,reduceCtorEq,fx,List.length_map,hm,e1,e2]
       exact hbr _
     · have e2:((l.length:Int)≤n)=False:=by simp only [eq_iff_iff,iff_false]; exact n2
       rw [if_pos (by omega)]
       simp only [Au,go_sem,AE,AA,AC,AB,KB_n,KB_x,Nat.reduceBEq,Nat.reduceAdd,Nat.reduceLT,Nat.reduceLeDiff,Nat.reduceEqDiff,reduceIte,Int.reduceEq,reduceCtorEq,fx,List.length_map,hm,e1,e2]
       exact hbr _
def dirE (l:List FT) (n:Int):Int:=if C2 l n=0 then (match l[n.toNat]? with | some f=>if f.isDir then 0 else 1 | none=>0) else C2 l n
theorem Er {l:List FT} {n:Int} (h:C2 l n=0):mayP l=true∧∃ (i:Nat) (f:FT),n=(i:Int)∧l[i]? = some f:=by
 unfold C2 at h
 split at h
 · split at h
   · rename_i h1 h2
     exact ⟨h1,n.toNat,l[n.toNat]'(by omega),by omega,List.getElem?_eq_getElem (by omega)⟩
   · cases h
 · cases h
theorem QN (l:List FT) (ho:∀ f∈l,f.Ok) (hl:l.length < 2^34) (hB:(flatK l).length < 2^62) (n:Int) (s:St) (hw:Wf s):(lim prog).call Aw [fx l,.i .i64 n] s=some (.i .i64 (dirE l n),s):=by
 refine fn_W Ez rfl rfl ?_
 have hz0:wkZ A5.cin [fx l,.i .i64 n]=[fx l,.i .i64 n]:=by
  simp only [A5,wkZ,fx,wk]
 have hbr:∀ z,KR s [.id] (.i .i64 z) (some ([.i .i64 z],s.enter)):=fun z=>AU (Over.enter s) rfl rfl
 have hth:∀ u:St,FO u (.ws false 6 (l.map FT.av))=some (.ws false 6 (l.map FT.av),u):=fun _=>rfl
 have hm:=RK l ho hl hB n s.enter hw.enter
 rw [hz0]
 unfold fx at hm
 unfold dirE
 by_cases hwr:C2 l n=0
 · obtain ⟨_,i,f,rfl,hf⟩:=Er hwr
   have hg2:=Fc hf
   have l0:∀ u,ldA u false 1 (.ep f.cells 0 .shut)=some (.b f.known):=fun u=>rfl
   have l1:∀ u,ldA u false 1 (.ep f.cells 1 .shut)=some (.i .u8 (f.kind:Nat)):=fun u=>rfl
   rw [hwr] at hm
   rw [if_pos hwr,Int.toNat_natCast,hf]
   show W _ _ _ _ (KF s _ _ (.i .i64 (if f.isDir then 0 else 1)))
   cases hk:f.known
   · rw [hk] at l0
     have hi:f.isDir=false:=by unfold FT.isDir; rw [hk]; rfl
     rw [hi]
     simp only [A5,go_sem,AE,AA,AC,AB,KB_n,KB_x,Nat.reduceBEq,Nat.reduceAdd,Nat.reduceLT,Nat.reduceLeDiff,Nat.reduceEqDiff,reduceIte,Int.reduceEq,reduceCtorEq,fx,hm,hth,AI,hg2,Bx,l0,l1]
     exact hbr _
   · rw [hk] at l0
     by_cases k2:f.kind=2
     · have e1:((f.kind:Int)≠2)=False:=by simp [k2]
       have hi:f.isDir=true:=by unfold FT.isDir; rw [hk,k2]; rfl
       rw [hi]
       simp only [A5,go_sem,AE,AA,AC,AB,KB_n,KB_x,Nat.reduceBEq,Nat.reduceAdd,Nat.reduceLT,Nat.reduceLeDiff,Nat.reduceEqDiff,reduceIte,Int.reduceEq,reduceCtorEq,fx,hm,hth,AI,hg2,Bx,l0,l1,e1]
       exact hbr _
     · have e1:((f.kind:Int)≠2)=True:=by simp only [ne_eq,eq_iff_iff,iff_true]; omega
       have hi:f.isDir=false:=by unfold FT.isDir; rw [hk,decide_eq_false k2]; rfl
       rw [hi]
       simp only [A5,go_sem,AE,AA,AC,AB,KB_n,KB_x,Nat.reduceBEq,Nat.reduceAdd,Nat.reduceLT,Nat.reduceLeDiff,Nat.reduceEqDiff,reduceIte,Int.reduceEq,reduceCtorEq,fx,hm,hth,AI,hg2,Bx,l0,l1,e1]
       exact hbr _
 · have e1:(C2 l n=0)=False:=by simp [hwr]
   rw [if_neg hwr]
   simp only [A5,go_sem,AE,AA,AC,AB,KB_n,KB_x,Nat.reduceBEq,Nat.reduceAdd,Nat.reduceLT,Nat.reduceLeDiff,Nat.reduceEqDiff,reduceIte,Int.reduceEq,reduceCtorEq,fx,hm,hth,e1]
   exact hbr _

section
variable {s0 s:St} {n:En} {R:List RA} {B:List (Nat×Box)}
theorem _root_.Go.Proofs.Ytgloinighjdhlaa.Am.Hp.strw (H:Hp s0 s n R B) (i:Nat) {id T off m rm:Nat} {cs:List AV} {v:AV} (h:B[i]? = some (id,.row T cs false rm)) (hoff:off+m≤cs.length) (hv:v.cells.length=m∧ones v.cells=true) :
    ∃ s',stA s m (.p id off) v=some s'∧Hp s0 s' n R (B.set i (id,.row T (cs.take off++(v.cells++cs.drop (off+v.cells.length))) false rm))∧s'.nb=s.nb:=by
 have hb:(B.set i (id,Box.row T (cs.take off++(v.cells++cs.drop (off+v.cells.length))) false rm))[i]? = some (id,.row T (cs.take off++(v.cells++cs.drop (off+v.cells.length))) false rm):=by
  rw [List.getElem?_set,if_pos rfl,if_pos (by rw [List.getElem?_eq_some_iff] at h; exact h.1)]
 obtain ⟨h1,h2,_⟩:=(H.setBox h (.row T (cs.take off++(v.cells++cs.drop (off+v.cells.length))) false rm)).esc hb v
 refine ⟨_,?_,h1,h2⟩
 have hbx:=(H.box h).1
 simp only at hbx
 have:Am.overR cs off v.cells rm=some (cs.take off++(v.cells++cs.drop (off+v.cells.length))):=by
  unfold Am.overR
  rw [if_pos (by omega)]
 simp only [stA,hbx,hv,and_self,if_true,this]
end
theorem RL:∀ {a b:List AV},ones a=true→ones b=true→ones (a++b)=true
 | [],_,_,h=>h
 | x::a,b,h,h2=>by
   have ha:ones a=true∧∀ l,ones (x::l)=ones l:=by cases x<;>simp [ones] at h ⊢<;>exact h
   rw [List.cons_append,ha.2]
   exact RL ha.1 h2
theorem RM:∀ {G:List (List AV)},(∀ c∈G,ones c=true)→ones G.flatten=true
 | [],_=>rfl
 | c::G,h=>RL (h c List.mem_cons_self) (RM fun x hx=>h x (List.mem_cons_of_mem _ hx))
theorem YL {s:St} {G:List (List AV)} (h6:Six G) (ho:∀ c∈G,ones c=true) {id T rm:Nat} {fz:Bool} {p:Nat×Bool} (hb:s.box? id=some (.row T G.flatten fz rm)) :
    frz s (.bl id 6 0 G.length p)=some (.sl 6 (G.map AV.agg) .shut,s.setBox id (.row T G.flatten true rm)):=by
 have hc:cut G.flatten 0 (G.length*6)=some G.flatten:=by
  unfold cut
  rw [List.drop_zero,List.take_of_length_le (by rw [MI h6]; exact Nat.le_refl _),if_pos (MI h6)]
 simp only [frz,hb,hc]
 rw [if_pos ⟨Nat.zero_le _,RM ho,by decide⟩,PB h6]
theorem YM (l:List FT) (G:List (List AV)) (h:G.map (fun c=>wkZ [CT.id,.id,(.sl 1 .id),(.sl 1 .id),.id,.id] c)=l.map FT.cells):wkM (.agg [.id,.id,(.sl 1 .id),(.sl 1 .id),.id,.id]) (G.map AV.agg)=l.map FT.av:=by
 induction G generalizing l with
 | nil =>
   cases l with
   | nil=>simp only [List.map_nil,wkM]
   | cons f l=>cases h
 | cons c G ih =>
   cases l with
   | nil=>cases h
   | cons f l =>
     simp only [List.map_cons,List.cons.injEq] at h
     simp only [List.map_cons,wkM,ih l h.2,wk,h.1]
     rfl
theorem N0 (f:FT):wkZ [CT.id,.id,(.sl 1 .id),(.sl 1 .id),.id,.id] f.cells=f.cells:=by
 simp only [FT.cells,wkZ,wk,zx,tx]
theorem ones_F (f:FT):ones f.cells=true:=rfl
theorem V1 (s:St) (l:List FT):elems s 6 (fx l)=some (l.map FT.av):=by
 simp [elems,fx]
theorem N1 (l:List FT):(l.map FT.cells).map AV.agg=l.map FT.av:=by
 rw [List.map_map]; rfl
theorem refs_F (f:FT):f.av.refs=false:=by
 simp only [FT.av,FT.cells,AV.refs,AV.refs.go,tx,zx,Nd,JA]
 rfl
theorem Kv:∀ l:List FT,AV.refs.go (l.map FT.av)=false
 | []=>rfl
 | f::l=>by
   simp only [List.map_cons,AV.refs.go,Kv l,refs_F f]
   rfl
end Go.Proofs.Ytgloinighjdhlaa

namespace Go.Proofs.Ytgloinighjdhlaa
open Go.Proofs.Ytgloinighjdhlaa.Am
section
variable {s0 s:St} {n:En} {R:List RA} {B:List (Nat×Box)}
theorem _root_.Go.Proofs.Ytgloinighjdhlaa.Am.Hp.slc (H:Hp s0 s n R B) (i:Nat) {es T:Nat} {a:AV} {xs:List AV} {fr:Bool} (h:R[i]? = some ⟨es,T,a,xs,fr⟩) {lo hi:Option AV} {p q:Nat} (hb:CS xs.length lo hi=some (p,q)) :
    ∃ a' s',Bv s false es a lo hi none=some (a',s')∧elems s' es a'=some ((xs.drop p).take (q - p))∧(DD es a' ((xs.drop p).take (q - p))∨(a'=a∧(xs.drop p).take (q - p)=xs))∧(∃ fr',Hp s0 s' n (R.set i ⟨es,T,a,xs,fr'⟩) B)∧s'.nb=s.nb:=by
 have hself:R.set i ⟨es,T,a,xs,fr⟩=R:=by
  apply List.ext_getElem?
  intro j
  rw [List.getElem?_set]
  by_cases hj:i=j
  · subst hj
    rw [if_pos rfl,if_pos (List.getElem?_eq_some_iff.1 h).1,h]
  · rw [if_neg hj]
 have hH:∃ fr',Hp s0 s n (R.set i ⟨es,T,a,xs,fr'⟩) B:=⟨fr,by rw [hself]; exact H⟩
 have hbl:∀ {p q:Nat},CS 0 lo hi=some (p,q)→p=0∧q=0:=by
  intro p q hh
  unfold CS at hh
  simp only at hh
  split at hh
  · split at hh
    · rename_i hq
      cases hh
      omega
    · cases hh
  · cases hh
 rcases H.rows h with (⟨h1,h2⟩ | ⟨h1,h2⟩ | h1 | h1) | ⟨k,v,t,ha,k1,k2,k3,k4,k5,k6,k7⟩
 · simp only at h1 h2; subst h1; subst h2
   rw [List.length_nil] at hb
   obtain ⟨rfl,rfl⟩:=hbl hb
   exact ⟨.nsl,s,by simp only [Bv,hb],rfl,.inl (.inl ⟨rfl,rfl⟩),hH,rfl⟩
 · simp only at h1 h2; subst h1; subst h2
   rw [List.length_nil] at hb
   obtain ⟨rfl,rfl⟩:=hbl hb
   exact ⟨.wz,s,by simp only [Bv,hb],rfl,.inl (.inr (.inl ⟨rfl,rfl⟩)),hH,rfl⟩
 · simp only at h1; subst h1
   by_cases hw:p=0∧q=xs.length
   · have hys:(xs.drop p).take (q - p)=xs:=by rw [hw.1,hw.2]; simp
     refine ⟨.sl es xs .full,s,?_,?_,.inr ⟨rfl,hys⟩,hH,rfl⟩
     · simp only [Bv,if_true,hb]
       rw [if_pos hw]
     · rw [hys]; simp [elems,St.ok]
   · by_cases hq:q=xs.length
     · refine ⟨.sl es ((xs.drop p).take (q - p)) .full,s,?_,by simp [elems,St.ok],.inl (.inr (.inr (.inl rfl))),hH,rfl⟩
       simp only [Bv,if_true,hb]
       rw [if_neg hw,if_pos hq]
     · refine ⟨.sl es ((xs.drop p).take (q - p)) .shut,s,?_,by simp [elems,St.ok],.inl (.inr (.inr (.inr (.inl rfl)))),hH,rfl⟩
       simp only [Bv,if_true,hb]
       rw [if_neg hw,if_neg hq]
 · simp only at h1; subst h1
   by_cases hw:p=0∧q=xs.length
   · have hys:(xs.drop p).take (q - p)=xs:=by rw [hw.1,hw.2]; simp
     refine ⟨.ws true es xs,s,?_,?_,.inr ⟨rfl,hys⟩,hH,rfl⟩
     · simp only [Bv,if_true,hb]
       rw [if_pos hw]
     · rw [hys]; simp [elems]
   · refine ⟨.ws false es ((xs.drop p).take (q - p)),s,?_,by simp [elems],.inl (.inr (.inr (.inr (.inr (.inr rfl))))),hH,rfl⟩
     simp only [Bv,if_true,hb]
     rw [if_neg hw]
 · simp only at ha k5 k6 k7
   subst ha
   by_cases hw:p=0∧q=xs.length
   · have hys:(xs.drop p).take (q - p)=xs:=by rw [hw.1,hw.2]; simp
     refine ⟨.sl es xs (.tok k v),s,?_,?_,.inr ⟨rfl,hys⟩,hH,rfl⟩
     · simp only [Bv,if_true,hb]
       rw [if_pos hw]
     · rw [hys]; simp [elems,St.ok,k3,k4]
   · refine ⟨.sl es ((xs.drop p).take (q - p)) .shut,s.setTok k { t with pub:=max t.pub xs.length },?_,by simp [elems,St.ok],.inl (.inr (.inr (.inr (.inl rfl)))),⟨false,?_⟩,rfl⟩
     · simp only [Bv,if_true,hb,k3,k4,Bool.false_and,Bool.false_eq_true,if_false]
       rw [if_neg hw]
     · exact H.setTok h rfl k3 xs { t with pub:=max t.pub xs.length } v false k4 k5 rfl (fun hh=>by cases hh)
end
theorem V2 {L M:List Int} (hp:L.Perm M) (hs:L.Pairwise (·≤·)):Ha M=L:=by
 unfold Ha
 have h1:(M.mergeSort fun x y=>decide (x≤y)).Pairwise (·≤·):=by
  have:=List.pairwise_mergeSort (le:=fun x y:Int=>decide (x≤y)) (fun a b c h1 h2=>by simp at *; omega) (fun a b=>by simp; omega) M
  refine this.imp ?_
  intro a b h
  simpa using h
 exact List.Perm.eq_of_pairwise (le:=(·≤·)) (fun a b _ _ h1 h2=>by omega) h1 hs ((List.mergeSort_perm M _).trans hp.symm)
theorem put_in {L:List Int} {x:Int} {a:Nat} (hs:L.Pairwise (·≤·)) (ha:a≤L.length) (h1:∀ j y,a≤j→L[j]? = some y→x < y) (h2:a=0∨∃ y,L[a - 1]? = some y∧y≤x):(L.take a++([x]++L.drop a)).Pairwise (·≤·)∧(L.take a++([x]++L.drop a)).Perm (L++[x]):=by
 constructor
 · rw [List.pairwise_append]
   refine ⟨hs.sublist (List.take_sublist a L),?_,?_⟩
   · rw [List.singleton_append,List.pairwise_cons]
     refine ⟨fun y hy=>?_,hs.sublist (List.drop_sublist a L)⟩
     obtain ⟨j,hj,rfl⟩:=List.mem_iff_getElem.1 hy
     rw [List.getElem_drop]
     rw [List.length_drop] at hj
     have:=h1 (a+j) (L[a+j]'(by omega)) (by omega) (List.getElem?_eq_getElem (by omega))
     omega
   · intro y hy z hz
     have hyx:y≤x:=by
      rcases h2 with rfl | ⟨w,hw,hwx⟩
      · simp at hy
      · obtain ⟨j,hj,rfl⟩:=List.mem_iff_getElem.1 hy
        rw [List.length_take] at hj
        rw [List.getElem_take]
        have hw':=List.getElem?_eq_some_iff.1 hw
        obtain ⟨hlt,hwe⟩:=hw'
        by_cases hja:j=a - 1
        · subst hja; omega
        · have:=List.pairwise_iff_getElem.1 hs j (a - 1) (by omega) hlt (by omega)
          omega
     rcases List.mem_append.1 hz with hz | hz
     · rw [List.mem_singleton] at hz; omega
     · obtain ⟨j,hj,rfl⟩:=List.mem_iff_getElem.1 hz
       rw [List.getElem_drop]
       rw [List.length_drop] at hj
       have:=h1 (a+j) (L[a+j]'(by omega)) (by omega) (List.getElem?_eq_getElem (by omega))
       omega
 · have h3:(L++[x]).Perm (L.take a++L.drop a++[x]):=by rw [List.take_append_drop]
   refine List.Perm.trans ?_ h3.symm
   rw [List.append_assoc]
   exact List.Perm.append_left _ List.perm_append_comm
end Go.Proofs.Ytgloinighjdhlaa

namespace Go.Proofs.Ytgloinighjdhlaa
open Go.Proofs.Ytgloinighjdhlaa.Am
attribute [local irreducible] W WO WE WQ WD Tr.get Tr.set
theorem V3 {t0:Nat} {s:St} {r:RA} (h:RowH t0 s r) (q:St):lenA q 1 r.a=some (.i .i64 (r.xs.length:Nat)):=by
 rcases h with (⟨h,h2⟩ | ⟨h,h2⟩ | h | h) | ⟨k,v,t,h,_⟩<;>rw [h]<;>(try rw [h2])<;>rfl
def besP (f:FT):List Int:=(Ha f.kids).drop f.beside.toNat

def tupR (r:List FT×Int):AV:=.tup [fx r.1,.i .i64 r.2]
def C9 (l:List FT) (n:Int) (kind:Nat):List FT×Int :=
 if C2 l n=0 then (match l[n.toNat]? with
  | none=>([],0)
  | some f=>if f.known then ([],6) else if 3 < kind then ([],1) else (l.set n.toNat ⟨true,kind,[],[],0,0⟩,0)) else ([],C2 l n)
def ED (l:List FT) (n:Int):List FT×Int :=
 if dirE l n=0 then (match l[n.toNat]? with
  | none=>([],0)
  | some f=>if f.rest=1 then ([],6) else (l.set n.toNat { f with rest:=2,beside:=(f.names.length:Int) },0)) else ([],dirE l n)
def IS (l:List FT) (f:FT):Bool:=(besP f).any fun k=>match l[k.toNat]? with
 | some g=>g.known&&decide (g.kind≠0)
 | none=>false
def DF (l:List FT) (n:Int):List FT×Int :=
 if dirE l n=0 then (match l[n.toNat]? with
  | none=>([],0)
  | some f=>if f.rest=1 then ([],6) else if f.rest=2∧IS l f=false then ([],67) else (l.set n.toNat { f with rest:=1,beside:=0 },0)) else ([],dirE l n)
theorem YN (kind:Nat):wkZ [CT.id,.id,(.sl 1 .id),(.sl 1 .id),.id,.id] [.b true,.i .u8 (kind:Nat),.nsl,.nsl,.i .i64 0,.i .i64 0]=(FT.mk true kind [] [] 0 0).cells:=by
 simp only [wkZ,wk,FT.cells,tx,zx,List.map_nil]
theorem KR_F {s q:St} (ov:Over s q) (L:List FT) (z:Int):KR s [.sl 6 (.agg [.id,.id,(.sl 1 .id),(.sl 1 .id),.id,.id]),.id] (tupR (L,z)) (some ([.ws false 6 (L.map FT.av),.i .i64 z],q)):=by
 refine AU ov ?_ ?_
 · simp only [Bs,AV.refs,AV.refs.go,Kv]
   rfl
 · simp only [Bs,wkZ,wk,tupR,fx]
theorem KR_0 {s q:St} (ov:Over s q) (z:Int):KR s [.sl 6 (.agg [.id,.id,(.sl 1 .id),(.sl 1 .id),.id,.id]),.id] (tupR ([],z)) (some ([.nsl,.i .i64 z],q)):=AU ov rfl rfl
theorem RN {l:List FT} {n:Int} (h:dirE l n=0):mayP l=true∧∃ (i:Nat) (f:FT),n=(i:Int)∧l[i]? = some f∧f.isDir=true:=by
 unfold dirE at h
 by_cases hw:C2 l n=0
 · obtain ⟨h1,i,f,rfl,hf⟩:=Er hw
   rw [if_pos hw,Int.toNat_natCast,hf] at h
   simp only at h
   refine ⟨h1,i,f,rfl,hf,?_⟩
   cases hi:f.isDir
   · rw [hi] at h; simp at h
   · rfl
 · rw [if_neg hw] at h
   exact absurd h hw
theorem QO {l:List FT} (h:mayP l=true) {f:FT} (hf:f∈l):f.one=true:=by
 cases l with
 | nil=>cases hf
 | cons g t =>
   simp only [mayP,Bool.and_eq_true,List.all_eq_true] at h
   exact h.2.1 f hf

theorem RO {f:FT} (h:f.one=true) (hd:f.isDir=true) (hr:f.rest=2):0≤f.beside∧f.beside≤(f.kids.length:Int):=by
 unfold FT.one at h
 rw [hd] at h
 simp only [if_true,Bool.and_eq_true,Bool.not_eq_true'] at h
 obtain ⟨h1,h2,h3⟩:=h
 unfold FT.restB at h3
 rw [if_pos hr] at h3
 simp only [Bool.and_eq_true,decide_eq_true_eq] at h3
 unfold FT.bad at h1
 simp only [Bool.or_eq_false_iff,decide_eq_false_iff_not,Decidable.not_not] at h1
 have:=h1.2.2
 omega
theorem T8 {f:FT} {k:Int} (h:k∈besP f):k∈f.kids:=by
 unfold besP at h
 have h1:=List.mem_of_mem_drop h
 exact (List.mergeSort_perm f.kids _).mem_iff.1 h1
theorem T9 {l:List FT} (h:mayP l=true) {i:Nat} {f:FT} (hf:l[i]? = some f) {k:Int} (hk:k∈f.kids):∃ (j:Nat) (g:FT),k=(j:Int)∧l[j]? = some g:=by
 cases l with
 | nil=>simp at hf
 | cons g t =>
   simp only [mayP,Bool.and_eq_true,GJ] at h
   have:=h.2.2.1 i f hf k hk
   exact ⟨k.toNat,(g::t)[k.toNat]'(by omega),by omega,List.getElem?_eq_getElem (by omega)⟩
def F0 (l:List FT) (k:Int):Bool:=match l[k.toNat]? with
 | some g=>g.known&&decide (g.kind≠0)
 | none=>false
theorem UA (l:List FT) (f:FT):IS l f=(besP f).any (F0 l):=rfl
theorem V4 {P:Int→Bool} {L:List Int} {c:Nat} {k:Int} (h:L[c]? = some k):(L.take (c+1)).any P=((L.take c).any P||P k):=by
 rw [List.take_add_one,h]
 simp

def wx (W:List (List FT)):AV:=.ws false 1 (W.map fx)
def tupW (r:List (List FT)×Int):AV:=.tup [wx r.1,.i .i64 r.2]
def mostK (links:Bool):Nat:=if links then 3 else 2
def waysP (l:List FT) (n:Int) (empty links:Bool):List (List FT)×Int :=
 if empty then (if (ED l n).2=0 then (if (DF l n).2=0 then ([(DF l n).1,(ED l n).1],0) else ([(ED l n).1],0)) else ([],(ED l n).2))
 else if (C9 l n 0).2=0 then ((List.range (mostK links+1)).map fun k=>(C9 l n k).1,0) else ([],(C9 l n 0).2)
theorem Wn (l:List FT) (n:Int) (k:Nat) (hk:k≤3):(C9 l n k).2=(C9 l n 0).2:=by
 unfold C9
 split
 · split
   · rfl
   · split
     · rfl
     · rw [if_neg (by omega),if_neg (by omega)]
 · rfl
theorem RQ:∀ W:List (List FT),AV.refs.go (W.map fx)=false
 | []=>rfl
 | l::W=>by
   simp only [List.map_cons,AV.refs.go,RQ W]
   simp only [fx,AV.refs,Kv,Bool.or_false]
theorem N2 (l:List FT):wk (.sl 6 (.agg [.id,.id,(.sl 1 .id),(.sl 1 .id),.id,.id])) (fx l)=fx l:=by
 simp only [fx,wk]
theorem wkM_W:∀ W:List (List FT),wkM (.sl 6 (.agg [.id,.id,(.sl 1 .id),(.sl 1 .id),.id,.id])) (W.map fx)=W.map fx
 | []=>by simp only [List.map_nil,wkM]
 | l::W=>by simp only [List.map_cons,wkM,wkM_W W,N2]
theorem KR_W {s q:St} (ov:Over s q) (W:List (List FT)) (z:Int) {a:AV} (ha:DD 1 a (W.map fx)):KR s [.sl 1 (.sl 6 (.agg [.id,.id,(.sl 1 .id),(.sl 1 .id),.id,.id])),.id] (tupW (W,z)) (some ([a,.i .i64 z],q)):=by
 refine AU ov ?_ ?_
 · simp only [Bs,AV.refs,AV.refs.go,ha.refs (RQ W)]
   rfl
 · simp only [Bs,wkZ,wk,ha.wk (wkM_W W),tupW,wx]
theorem YO {s q:St} (ov:Over s q) (z:Int):KR s [.sl 1 (.sl 6 (.agg [.id,.id,(.sl 1 .id),(.sl 1 .id),.id,.id])),.id] (tupW ([],z)) (some ([.nsl,.i .i64 z],q)):=KR_W ov [] z (.inl ⟨rfl,rfl⟩)
theorem Ja (s:St) (l:List FT):elems s 1 (.sl 1 [AV.ws false 6 (l.map FT.av)] .full)=some [fx l]:=by simp [elems,St.ok,fx]
theorem IG (l:List FT):Ag 1 [AV.ws false 6 (l.map FT.av)]=true:=rfl
theorem UB {k:Nat} (h:k≤3):IntKind.u8.wrap ((k:Int)+1)=((k+1:Nat):Int):=by
 rcases (by omega:k=0∨k=1∨k=2∨k=3) with rfl | rfl | rfl | rfl<;>rfl
theorem wkM_F:∀ l:List FT,wkM (.agg [.id,.id,(.sl 1 .id),(.sl 1 .id),.id,.id]) (l.map FT.av)=l.map FT.av
 | []=>by simp only [List.map_nil,wkM]
 | f::l=>by
   simp only [List.map_cons,wkM,wkM_F l,FT.av,wk,N0 f]
theorem YP {l:List FT} {a:AV} (h:DD 6 a (l.map FT.av)):wk (.sl 6 (.agg [.id,.id,(.sl 1 .id),(.sl 1 .id),.id,.id])) a=fx l:=h.wk (wkM_F l)
end Go.Proofs.Ytgloinighjdhlaa

namespace Go.Proofs.Ytgloinighjdhlaa
open Go.Proofs.Ytgloinighjdhlaa.Am
structure FOk (l:List FT):Prop where
 ok:∀ f∈l,f.Ok
 len:l.length < 2^34
 fl:(flatK l).length < 2^62
theorem UC {l:List FT} {i:Nat} {f g:FT} (h:l[i]? = some f) (hk:g.kids.length≤f.kids.length):(flatK (l.set i g)).length≤(flatK l).length:=by
 have hlt:=(List.getElem?_eq_some_iff.1 h).1
 have h1:flatK l=flatK (l.take i)++f.kids++flatK (l.drop (i+1)):=by
  rw [← FJ h]
  unfold flatK
  rw [← List.flatten_append,← List.map_append,List.take_append_drop]
 have h2:flatK (l.set i g)=flatK (l.take i)++g.kids++flatK (l.drop (i+1)):=by
  rw [List.set_eq_take_append_cons_drop,if_pos hlt]
  unfold flatK
  simp
 rw [h1,h2]
 simp only [List.length_append]
 omega
theorem FOk.set {l:List FT} (H:FOk l) {i:Nat} {f g:FT} (h:l[i]? = some f) (hg:g.Ok) (hk:g.kids.length≤f.kids.length):FOk (l.set i g) where
 ok:=fun x hx=>by
  rcases List.mem_or_eq_of_mem_set hx with hx | rfl
  · exact H.ok x hx
  · exact hg
 len:=by rw [List.length_set]; exact H.len
 fl:=Nat.lt_of_le_of_lt (UC h hk) H.fl
theorem FOk.nil:FOk []:=⟨fun f hf=>by simp at hf,by simp,by simp [flatK]⟩
theorem FOk.know {l:List FT} (H:FOk l) (n:Int) {k:Nat} (hk:k < 256):FOk (C9 l n k).1:=by
 unfold C9
 split
 · split
   · exact .nil
   · rename_i f hf
     split
     · exact .nil
     · split
       · exact .nil
       · exact H.set hf ⟨hk,by simp,by simp,by simp⟩ (by simp)
 · exact .nil
theorem FOk.more {l:List FT} (H:FOk l) (n:Int):FOk (ED l n).1:=by
 unfold ED
 split
 · split
   · exact .nil
   · rename_i f hf
     have hf':=H.ok f (List.mem_of_getElem? hf)
     split
     · exact .nil
     · exact H.set hf ⟨hf'.kind,hf'.names,hf'.nlen,hf'.klen⟩ (Nat.le_refl _)
 · exact .nil
theorem FOk.whole {l:List FT} (H:FOk l) (n:Int):FOk (DF l n).1:=by
 unfold DF
 split
 · split
   · exact .nil
   · rename_i f hf
     have hf':=H.ok f (List.mem_of_getElem? hf)
     split
     · exact .nil
     · split
       · exact .nil
       · exact H.set hf ⟨hf'.kind,hf'.names,hf'.nlen,hf'.klen⟩ (Nat.le_refl _)
 · exact .nil
theorem FOk.ways {l:List FT} (H:FOk l) (n:Int) (empty links:Bool):∀ w∈(waysP l n empty links).1,FOk w:=by
 unfold waysP
 intro w hw
 have hmk:mostK links≤3:=by unfold mostK; split<;>omega
 split at hw
 · split at hw
   · split at hw
     · simp only [List.mem_cons,List.not_mem_nil,or_false] at hw
       rcases hw with rfl | rfl
       · exact H.whole n
       · exact H.more n
     · simp only [List.mem_cons,List.not_mem_nil,or_false] at hw
       subst hw
       exact H.more n
   · simp at hw
 · split at hw
   · obtain ⟨k,hk,rfl⟩:=List.mem_map.1 hw
     rw [List.mem_range] at hk
     exact H.know n (by omega)
   · simp at hw
theorem V5 (l:List FT) (n:Int) (empty links:Bool):(waysP l n empty links).1.length≤4:=by
 have hmk:mostK links≤3:=by unfold mostK; split<;>omega
 unfold waysP
 split
 · split
   · split<;>simp
   · simp
 · split
   · simp; omega
   · simp
def OutA (s q:St) (a:AV) (l:List FT):Prop:=∃ R,Hp s q s.en R []∧(DD 6 a (l.map FT.av)∨∃ fr,R[0]? = some ⟨6,60,a,l.map FT.av,fr⟩)
theorem OutA.pub {s q:St} {a:AV} {l:List FT} (h:OutA s q a l):∃ a' q',Am.pub q a=some (a',q')∧pubA q a=some (a',q')∧DD 6 a' (l.map FT.av)∧(∃ R,Hp s q' s.en R []):=by
 obtain ⟨R,H,ht | ⟨fr,hR⟩⟩:=h
 · exact ⟨a,q,ht.pub q,ht.pubA q,ht,R,H⟩
 · obtain ⟨a',q',d,t,H',_⟩:=H.pub 0 hR
   refine ⟨a',q',d,?_,t,_,H'⟩
   have:=GV (H.rows hR)
   simp only at this
   rw [this]
   exact d

theorem YQ {α:Type} {L:List α} {i:Nat} {x:α} (h:L[i]? = some x):L.drop i=x::L.drop (i+1):=by
 obtain ⟨h1,h2⟩:=List.getElem?_eq_some_iff.1 h
 rw [List.drop_eq_getElem_cons h1,h2]

attribute [local irreducible] W WO WE WQ WD Tr.get Tr.set
def N3 (f:FT):Bool:=decide (f.names.length≤50)&&(decide (f.kids.length≤50)&&f.names.all fun s=>decide (s.length≤300))
def N4 (l:List FT):Bool:=!(decide (l.length≤50)&&l.all N3)
theorem MK {l:List FT} {f:FT} (hf:f∈l) (h:N3 f=false):N4 l=true:=by
 unfold N4
 have:l.all N3=false:=by
  rw [Bool.eq_false_iff]
  intro hh
  rw [List.all_eq_true] at hh
  rw [hh f hf] at h; cases h
 rw [this,Bool.and_false]; rfl
theorem V9 (l:List FT) (ho:∀ f∈l,f.Ok) (s:St) (hw:Wf s):(lim prog).call Az [fx l] s=some (.b (N4 l),s):=by
 refine fn_W EZ rfl rfl ?_
 have hz0:wkZ BT.cin [fx l]=[fx l]:=by simp only [BT,wkZ,fx,wk]
 have hbr:∀ b,KR s [.id] (.b b) (some ([.b b],s.enter)):=fun z=>AU (Over.enter s) rfl rfl
 have hth:∀ u:St,FO u (.ws false 6 (l.map FT.av))=some (.ws false 6 (l.map FT.av),u):=fun _=>rfl
 rw [hz0]
 by_cases hlen:50 < l.length
 · have e1:((50:Int) < (l.length:Int))=True:=eq_true (by omega)
   rw [show N4 l=true by unfold N4; rw [decide_eq_false (by omega)]; rfl]
   simp only [BT,go_sem,AE,AA,AC,AB,KB_n,KB_x,Nat.reduceBEq,Nat.reduceAdd,Nat.reduceLT,Nat.reduceLeDiff,Nat.reduceEqDiff,reduceIte,Int.reduceEq,reduceCtorEq,fx,List.length_map,e1]
   exact hbr _
 · have e1 : ((50 : Int) < (l.length:Int))=False:=eq_false (by omega)
   simp only [BT,go_sem,AE,AA,AC,AB,KB_n,KB_x,Nat.reduceBEq,Nat.reduceAdd,Nat.reduceLT,Nat.reduceLeDiff,Nat.reduceEqDiff,reduceIte,Int.reduceEq,reduceCtorEq,fx,List.length_map,e1]
   refine CH (fun x e q=>∃ i:Nat,i+x=l.length∧q=s.enter∧(∀ a g,a < i→l[a]? = some g→N3 g=true)∧e.get 0=fx l∧e.get 3=.i .i64 (i:Nat)) ?_ l.length _ _ ?_
   · rintro x e q ⟨i,hix,rfl,hfi,g0,g3⟩
     by_cases h:i < l.length
     · have h1 : ((i:Int) < (l.length:Int))=True:=eq_true (by omega)
       obtain ⟨g,hg⟩:∃ g,l[i]? = some g:=⟨_,List.getElem?_eq_getElem h⟩
       have hgm:=List.mem_of_getElem? hg
       have hg2:=Fc hg
       have hgo:=ho g hgm
       have hw1:=A9 (show i+1 < 2^63 by omega)
       have l2:∀ u,ldA u false 1 (.ep g.cells 2 .shut)=some (tx g.names):=fun u=>rfl
       have l3:∀ u,ldA u false 1 (.ep g.cells 3 .shut)=some (zx g.kids):=fun u=>rfl
       by_cases d1:50 < g.names.length
       · have r1:((50:Int) < (g.names.length:Int))=True:=eq_true (by omega)
         rw [MK hgm (by unfold N3; rw [decide_eq_false (by omega),Bool.false_and])]
         simp only [go_sem,AE,AA,AC,AB,KB_n,KB_x,Nat.reduceBEq,Nat.reduceAdd,Nat.reduceLT,Nat.reduceLeDiff,Nat.reduceEqDiff,reduceIte,Int.reduceEq,reduceCtorEq,g0,g3,fx,zx,List.length_map,h1,hth,AI,hg2,Bx,l2,l3,r1]
         exact hbr _
       · have r1 : ((50:Int) < (g.names.length:Int))=False:=eq_false (by omega)
         by_cases d2:50 < g.kids.length
         · have r2:((50:Int) < (g.kids.length:Int))=True:=eq_true (by omega)
           rw [MK hgm (by unfold N3; rw [decide_eq_false (show ¬ g.kids.length≤50 by omega),Bool.false_and,Bool.and_false])]
           simp only [go_sem,AE,AA,AC,AB,KB_n,KB_x,Nat.reduceBEq,Nat.reduceAdd,Nat.reduceLT,Nat.reduceLeDiff,Nat.reduceEqDiff,reduceIte,Int.reduceEq,reduceCtorEq,g0,g3,fx,zx,List.length_map,h1,hth,AI,hg2,Bx,l2,l3,r1,r2]
           exact hbr _
         · have r2 : ((50:Int) < (g.kids.length:Int))=False:=eq_false (by omega)
           simp only [go_sem,AE,AA,AC,AB,KB_n,KB_x,Nat.reduceBEq,Nat.reduceAdd,Nat.reduceLT,Nat.reduceLeDiff,Nat.reduceEqDiff,reduceIte,Int.reduceEq,reduceCtorEq,g0,g3,fx,zx,List.length_map,h1,hth,AI,hg2,Bx,l2,l3,r1,r2]
           refine CH (fun y e q=>∃ c:Nat,c+y=g.names.length∧q=s.enter∧(∀ a t,a < c→g.names[a]? = some t→t.length≤300)∧e.get 0=fx l∧e.get 3=.i .i64 (i:Nat)∧e.get 4=.i .i64 (c:Nat)) ?_ g.names.length _ _ ?_
           · clear g0 g3
             rintro y e q ⟨c,hcy,rfl,hfc,g0,g3,g4⟩
             by_cases hc:c < g.names.length
             · have c1:((c:Int) < (g.names.length:Int))=True:=eq_true (by omega)
               obtain ⟨t,ht⟩:∃ t,g.names[c]? = some t:=⟨_,List.getElem?_eq_getElem hc⟩
               have ht2:(g.names.map AV.s)[c]? = some (.s t):=by rw [List.getElem?_map,ht]; rfl
               have htm:=List.mem_of_getElem? ht
               have hw2:=A9 (show c+1 < 2^63 by omega)
               by_cases d3:300 < t.length
               · have r3:((300:Int) < (t.length:Int))=True:=eq_true (by omega)
                 rw [MK hgm (by
                  have:(g.names.all fun s=>decide (s.length≤300))=false:=by
                   rw [Bool.eq_false_iff]; intro hh
                   rw [List.all_eq_true] at hh
                   have:=of_decide_eq_true (hh t htm)
                   omega
                  unfold N3; rw [this,Bool.and_false,Bool.and_false])]
                 simp only [go_sem,AE,AA,AC,AB,KB_n,KB_x,Nat.reduceBEq,Nat.reduceAdd,Nat.reduceLT,Nat.reduceLeDiff,Nat.reduceEqDiff,reduceIte,Int.reduceEq,reduceCtorEq,g0,g3,g4,fx,zx,List.length_map,hth,AI,hg2,Bx,l2,c1,ht2,Ff,Dy,r3]
                 exact hbr _
               · have r3:((300:Int) < (t.length:Int))=False:=eq_false (by omega)
                 simp only [go_sem,AE,AA,AC,AB,KB_n,KB_x,Nat.reduceBEq,Nat.reduceAdd,Nat.reduceLT,Nat.reduceLeDiff,Nat.reduceEqDiff,reduceIte,Int.reduceEq,reduceCtorEq,g0,g3,g4,fx,zx,List.length_map,hth,AI,hg2,Bx,l2,c1,ht2,Ff,Dy,r3,hw2]
                 refine ⟨y - 1,by omega,c+1,by omega,fun a u ha hu=>?_,rfl⟩
                 rcases Nat.lt_or_ge a c with hlt | hge
                 · exact hfc a u hlt hu
                 · obtain rfl:a=c:=by omega
                   rw [ht] at hu; cases hu
                   omega
             · have c1:((c:Int) < (g.names.length:Int))=False:=eq_false (by omega)
               simp only [go_sem,AE,AA,AC,AB,KB_n,KB_x,Nat.reduceBEq,Nat.reduceAdd,Nat.reduceLT,Nat.reduceLeDiff,Nat.reduceEqDiff,reduceIte,Int.reduceEq,reduceCtorEq,g0,g3,g4,fx,zx,List.length_map,hth,AI,hg2,Bx,l2,c1,hw1]
               refine ⟨x - 1,by omega,i+1,by omega,fun a g' ha hg'=>?_,rfl⟩
               rcases Nat.lt_or_ge a i with hlt | hge
               · exact hfi a g' hlt hg'
               · obtain rfl:a=i:=by omega
                 rw [hg] at hg'; cases hg'
                 unfold N3
                 rw [decide_eq_true (show g.names.length≤50 by omega),decide_eq_true (show g.kids.length≤50 by omega),Bool.true_and,Bool.true_and,List.all_eq_true]
                 intro u hu
                 obtain ⟨a,ha,rfl⟩:=List.mem_iff_getElem.1 hu
                 exact decide_eq_true (hfc a _ (by omega) (List.getElem?_eq_getElem ha))
           · simp only [go_sem,AE,AA,AC,AB,KB_n,KB_x,Nat.reduceBEq,Nat.reduceAdd,Nat.reduceLT,Nat.reduceLeDiff,Nat.reduceEqDiff,reduceIte,Int.reduceEq,reduceCtorEq]
             exact ⟨0,by omega,fun a t ha=>by omega,rfl,g3,rfl⟩
     · have h1:((i:Int) < (l.length:Int))=False:=eq_false (by omega)
       rw [show N4 l=false by
        unfold N4
        rw [decide_eq_true (by omega),Bool.true_and]
        have:l.all N3=true:=by
         rw [List.all_eq_true]
         intro g hg
         obtain ⟨a,ha,rfl⟩:=List.mem_iff_getElem.1 hg
         exact hfi a _ (by omega) (List.getElem?_eq_getElem ha)
        rw [this]; rfl]
       simp only [go_sem,AE,AA,AC,AB,KB_n,KB_x,Nat.reduceBEq,Nat.reduceAdd,Nat.reduceLT,Nat.reduceLeDiff,Nat.reduceEqDiff,reduceIte,Int.reduceEq,reduceCtorEq,g0,g3,fx,List.length_map,h1]
       exact hbr _
   · simp only [go_sem,AE,AA,AC,AB,KB_n,KB_x,Nat.reduceBEq,Nat.reduceAdd,Nat.reduceLT,Nat.reduceLeDiff,Nat.reduceEqDiff,reduceIte,Int.reduceEq,reduceCtorEq]
     exact ⟨0,by omega,fun a g ha=>by omega,rfl,rfl⟩
end Go.Proofs.Ytgloinighjdhlaa

namespace Go.Proofs.Ytgloinighjdhlaa
open Go.Proofs.Ytgloinighjdhlaa.Am

attribute [local irreducible] W WO WE WQ WD Tr.get Tr.set
theorem ML:∀ L:List (List Nat),E8 (L.map AV.s) (L.map AV.s)=true
 | []=>rfl
 | z::L=>by simp [List.map_cons,E8,beqA,ML L,O0]
theorem UI (f:FT):still (.agg f.cells)=true:=by
 have h:E8 f.cells f.cells=true:=by
  simp [FT.cells,tx,zx,E8,beqA,Jo,ML]
 have h1:f.cells.all noTok=true:=rfl
 simp only [still,h1,AW,h,Bool.and_self]
theorem UJ (l:List FT) (ho:∀ f∈l,f.Ok) (hl:l.length < 2^34) (hsame:∀ f∈l,SH f.names f.names=true) (s:St) (hw:Wf s):(lim prog).call A1 [fx l,fx l] s=some (.b true,s):=by
 refine fn_W Ea rfl rfl ?_
 have hz0:wkZ Bm.cin [fx l,fx l]=[fx l,fx l]:=by simp only [Bm,wkZ,fx,wk]
 rw [hz0]
 have e0:((l.length:Int)≠(l.length:Int))=False:=by simp
 simp only [Bm,go_sem,AE,AA,AC,AB,KB_n,KB_x,Nat.reduceBEq,Nat.reduceAdd,Nat.reduceLT,Nat.reduceLeDiff,Nat.reduceEqDiff,reduceIte,Int.reduceEq,reduceCtorEq,fx,List.length_map,e0]
 refine CH (fun x e q=>∃ i:Nat,i+x=l.length∧Hp s q s.en [] []∧e.get 0=fx l∧e.get 1=fx l∧e.get 5=.i .i64 (i:Nat)) ?_ l.length _ _ ?_
 · rintro x e q ⟨i,hix,H,g0,g1,g5⟩
   by_cases h:i < l.length
   · have h1:((i:Int) < (l.length:Int))=True:=eq_true (by omega)
     obtain ⟨f,hf⟩:∃ f,l[i]? = some f:=⟨_,List.getElem?_eq_getElem h⟩
     have hg2:=Fc hf
     have hw1:=A9 (show i+1 < 2^63 by omega)
     have H1:=H.new (.cells 60 [.b false,.i .u8 0,.nsl,.nsl,.i .i64 0,.i .i64 0])
     obtain ⟨q2,d2,H2,n2⟩:=H1.adp (T:=60) (m:=6) (z:=[.b false,.i .u8 0,.nsl,.nsl,.i .i64 0,.i .i64 0]) (v:=.agg f.cells) rfl ⟨rfl,rfl⟩
     have hnb:(q.new (.cells 60 [.b false,.i .u8 0,.nsl,.nsl,.i .i64 0,.i .i64 0])).nb=q.nb+1:=rfl
     rw [hnb] at d2 H2
     have hnt:f.cells.all noTok=true:=rfl
     obtain ⟨q3,d3,H3,n3,_⟩:=H2.stw 1 (m:=6) (v:=.agg f.cells) rfl rfl ⟨rfl,rfl⟩
     simp only [go_sem,AE,AA,AC,AB,KB_n,KB_x,Nat.reduceBEq,Nat.reduceAdd,Nat.reduceLT,Nat.reduceLeDiff,Nat.reduceEqDiff,reduceIte,Int.reduceEq,reduceCtorEq,g0,g1,g5,fx,List.length_map,h1]
     refine Tx rfl ?_
     simp only [go_sem,AE,AA,AC,AB,KB_n,KB_x,Nat.reduceBEq,Nat.reduceAdd,Nat.reduceLT,Nat.reduceLeDiff,Nat.reduceEqDiff,reduceIte,Int.reduceEq,reduceCtorEq,g0,g1,g5,fx,AI,hg2,Bx,Ax,AW,d2,d3]
     refine ⟨hnt,hnt,?_⟩
     refine Vq rfl ?_ (UI f) ⟨⟨_,rfl,Ax f _⟩,⟨_,rfl,Ax f _⟩,⟨_,rfl,Ax f _⟩,⟨_,rfl,Ax f _⟩,⟨_,rfl,Ax f _⟩,⟨_,rfl,Ax f _⟩,⟨_,rfl,Ax f _⟩,⟨_,rfl,Ax f _⟩,⟨_,rfl,Ax f _⟩,trivial⟩ (Vq rfl ?_ (UI f) ⟨⟨_,rfl,Ax f _⟩,⟨_,rfl,Ax f _⟩,⟨_,rfl,Ax f _⟩,⟨_,rfl,Ax f _⟩,⟨_,rfl,Ax f _⟩,⟨_,rfl,Ax f _⟩,trivial⟩ (Tz ?_))
     · simp only [go_sem,AE,AA,AC,AB,KB_n,KB_x,Nat.reduceBEq,Nat.reduceAdd,Nat.reduceLT,Nat.reduceLeDiff,Nat.reduceEqDiff,reduceIte,Int.reduceEq,reduceCtorEq]
     · simp only [go_sem,AE,AA,AC,AB,KB_n,KB_x,Nat.reduceBEq,Nat.reduceAdd,Nat.reduceLT,Nat.reduceLeDiff,Nat.reduceEqDiff,reduceIte,Int.reduceEq,reduceCtorEq]
     have H4:Hp s q3 s.en [] [(q.nb+1,.cells 60 f.cells),(q.nb,.cells 60 f.cells)]:=H3
     have a0:=H4.ld 0 (off:=0) (v:=.b f.known) rfl rfl
     have a1:=H4.ld 0 (off:=1) (v:=.i .u8 (f.kind:Nat)) rfl rfl
     have a2:=H4.ld 0 (off:=2) (v:=tx f.names) rfl rfl
     have a3:=H4.ld 0 (off:=3) (v:=zx f.kids) rfl rfl
     have a4:=H4.ld 0 (off:=4) (v:=.i .i64 f.rest) rfl rfl
     have a5:=H4.ld 0 (off:=5) (v:=.i .i64 f.beside) rfl rfl
     have b0:=H4.ld 1 (off:=0) (v:=.b f.known) rfl rfl
     have b1:=H4.ld 1 (off:=1) (v:=.i .u8 (f.kind:Nat)) rfl rfl
     have b2:=H4.ld 1 (off:=2) (v:=tx f.names) rfl rfl
     have b3:=H4.ld 1 (off:=3) (v:=zx f.kids) rfl rfl
     have b4:=H4.ld 1 (off:=4) (v:=.i .i64 f.rest) rfl rfl
     have b5:=H4.ld 1 (off:=5) (v:=.i .i64 f.beside) rfl rfl
     have hfo:=ho f (List.mem_of_getElem? hf)
     have hsm:=QV f.names f.names (by have:=hfo.nlen; omega) q3
     rw [hsame f (List.mem_of_getElem? hf)] at hsm
     unfold tx at a2 b2 hsm
     unfold zx at a3 b3
     have k1:((f.kind:Int)≠(f.kind:Int))=False:=by simp
     have k2:(f.rest≠f.rest)=False:=by simp
     have k3:(f.beside≠f.beside)=False:=by simp
     have k4:((f.kids.length:Int)≠(f.kids.length:Int))=False:=by simp
     generalize hkn:f.known=kn at a0 b0
     cases kn<;>simp only [go_sem,AE,AA,AC,AB,KB_n,KB_x,Nat.reduceBEq,Nat.reduceAdd,Nat.reduceLT,Nat.reduceLeDiff,Nat.reduceEqDiff,reduceIte,Int.reduceEq,reduceCtorEq,g0,g1,g5,fx,List.length_map,Nat.zero_add,a0,a1,a2,a3,a4,a5,b0,b1,b2,b3,b4,b5,hsm,k1,k2,k3,k4]
     all_goals
      refine CH (fun y e q'=>∃ c:Nat,c+y=f.kids.length∧q'=q3∧e.get 0=fx l∧e.get 1=fx l∧e.get 5=.i .i64 (i:Nat)∧e.get 6=.p (q.nb+1) 0∧e.get 7=.p q.nb 0∧e.get 8=.i .i64 (c:Nat)) ?_ f.kids.length _ _ ?_
      · clear g0 g1 g5
        rintro y e q' ⟨c,hcy,rfl,g0,g1,g5,g6,g7,g8⟩
        by_cases hc:c < f.kids.length
        · have c1:((c:Int) < (f.kids.length:Int))=True:=eq_true (by omega)
          obtain ⟨k,hk⟩:∃ k,f.kids[c]? = some k:=⟨_,List.getElem?_eq_getElem hc⟩
          have hk2:=JY hk
          have hw2:=A9 (show c+1 < 2^63 by have:=hfo.klen; omega)
          have c2:(k≠k)=False:=by simp
          simp only [go_sem,AE,AA,AC,AB,KB_n,KB_x,Nat.reduceBEq,Nat.reduceAdd,Nat.reduceLT,Nat.reduceLeDiff,Nat.reduceEqDiff,reduceIte,Int.reduceEq,reduceCtorEq,g0,g1,g5,g6,g7,g8,a3,b3,Nat.zero_add,List.length_map,c1,AI,hk2,CK,Dy,c2,hw2]
          exact ⟨y - 1,by omega,c+1,by omega,rfl⟩
        · have c1:((c:Int) < (f.kids.length:Int))=False:=eq_false (by omega)
          simp only [go_sem,AE,AA,AC,AB,KB_n,KB_x,Nat.reduceBEq,Nat.reduceAdd,Nat.reduceLT,Nat.reduceLeDiff,Nat.reduceEqDiff,reduceIte,Int.reduceEq,reduceCtorEq,g0,g1,g5,g6,g7,g8,a3,b3,Nat.zero_add,List.length_map,c1,hw1]
          exact ⟨x - 1,by omega,i+1,by omega,H4.sel [] [] (by simp) (by simp),rfl,rfl,rfl⟩
      · simp only [go_sem,AE,AA,AC,AB,KB_n,KB_x,Nat.reduceBEq,Nat.reduceAdd,Nat.reduceLT,Nat.reduceLeDiff,Nat.reduceEqDiff,reduceIte,Int.reduceEq,reduceCtorEq]
        exact ⟨0,by omega,g0,g1,g5,rfl⟩
   · have h1:((i:Int) < (l.length:Int))=False:=eq_false (by omega)
     simp only [go_sem,AE,AA,AC,AB,KB_n,KB_x,Nat.reduceBEq,Nat.reduceAdd,Nat.reduceLT,Nat.reduceLeDiff,Nat.reduceEqDiff,reduceIte,Int.reduceEq,reduceCtorEq,g0,g1,g5,fx,List.length_map,h1]
     exact AU H.over rfl rfl
 · simp only [go_sem,AE,AA,AC,AB,KB_n,KB_x,Nat.reduceBEq,Nat.reduceAdd,Nat.reduceLT,Nat.reduceLeDiff,Nat.reduceEqDiff,reduceIte,Int.reduceEq,reduceCtorEq]
   exact ⟨0,by omega,Hp.begin hw,rfl,rfl,rfl⟩
end Go.Proofs.Ytgloinighjdhlaa

namespace Go.Proofs.Ytgloinighjdhlaa
open Go.Proofs.Ytgloinighjdhlaa.Am

attribute [local irreducible] W WO WE WQ WD Tr.get Tr.set
end Go.Proofs.Ytgloinighjdhlaa

namespace Go.Proofs.Ytgloinighjdhlaa
open Go.Proofs.Ytgloinighjdhlaa.Am
def CF (f:FT) (c:List AV):Prop:=∃ a b,DD 1 a (f.names.map .s)∧DD 1 b (f.kids.map iv)∧c=[.b f.known,.i .u8 (f.kind:Nat),a,b,.i .i64 f.rest,.i .i64 f.beside]
def GF (l:List FT) (G:List (List AV)):Prop:=G.length=l.length∧∀ (i:Nat) (f:FT),l[i]? = some f→∃ c,G[i]? = some c∧CF f c
theorem CF.self (f:FT):CF f f.cells:=⟨tx f.names,zx f.kids,.ws,.ws,rfl⟩
theorem GF.self (l:List FT):GF l (l.map FT.cells):=⟨by simp,fun i f h=>⟨f.cells,by rw [List.getElem?_map,h]; rfl,CF.self f⟩⟩
theorem GF.mem {l:List FT} {G:List (List AV)} (h:GF l G) {c:List AV} (hc:c∈G):∃ f,f∈l∧CF f c:=by
 obtain ⟨i,hi,rfl⟩:=List.mem_iff_getElem.1 hc
 have hl:i < l.length:=by rw [← h.1]; exact hi
 obtain ⟨c,hc,hf⟩:=h.2 i l[i] (List.getElem?_eq_getElem hl)
 rw [List.getElem?_eq_getElem hi] at hc
 cases hc
 exact ⟨l[i],List.getElem_mem hl,hf⟩
theorem R9 {a b:AV} {xs ys:List AV} (ha:DD 1 a xs) (hb:DD 1 b ys) (l:List AV):ones (a::b::l)=ones l:=by
 rcases ha with ⟨rfl,_⟩ | ⟨rfl,_⟩ | rfl | rfl | rfl | rfl<;>rcases hb with ⟨rfl,_⟩ | ⟨rfl,_⟩ | rfl | rfl | rfl | rfl<;>rfl
theorem GF.ones {l:List FT} {G:List (List AV)} (h:GF l G):∀ c∈G,Am.ones c=true:=fun c hc=>by
 obtain ⟨f,_,a,b,ha,hb,rfl⟩:=h.mem hc
 show Am.ones (a::b::_)=true
 rw [R9 ha hb]
 rfl
theorem CF.wk {f:FT} {c:List AV} (h:CF f c):wkZ [CT.id,.id,(.sl 1 .id),(.sl 1 .id),.id,.id] c=f.cells:=by
 obtain ⟨a,b,ha,hb,rfl⟩:=h
 have h1:=ha.wk (c:=.id) (Y1 f.names)
 have h2:=hb.wk (c:=.id) (Rp f.kids)
 simp only [wkZ,h1,h2]
 simp only [Am.wk,FT.cells,tx,zx]
theorem GF.wk {l:List FT} {G:List (List AV)} (h:GF l G):G.map (fun c=>wkZ [CT.id,.id,(.sl 1 .id),(.sl 1 .id),.id,.id] c)=l.map FT.cells:=by
 apply List.ext_getElem?
 intro i
 rw [List.getElem?_map,List.getElem?_map]
 by_cases hi:i < l.length
 · obtain ⟨c,hc,hf⟩:=h.2 i l[i] (List.getElem?_eq_getElem hi)
   rw [hc,List.getElem?_eq_getElem hi]
   simp only [Option.map_some,hf.wk]
 · rw [List.getElem?_eq_none (by have:=h.1; omega),List.getElem?_eq_none (by omega)]; rfl
theorem GF.set {l:List FT} {G:List (List AV)} (h:GF l G) {i:Nat} {g:FT} {c:List AV} (hi:i < l.length) (hc:CF g c):GF (l.set i g) (G.set i c):=by
 refine ⟨by rw [List.length_set,List.length_set]; exact h.1,fun j f hj=>?_⟩
 have hG:=h.1
 rw [List.getElem?_set] at hj ⊢
 by_cases hij:i=j
 · rw [if_pos hij,if_pos hi] at hj
   cases hj
   rw [if_pos hij,if_pos (by omega)]
   exact ⟨c,rfl,hc⟩
 · rw [if_neg hij] at hj ⊢
   exact h.2 j f hj
theorem CF.refs {f:FT} {c:List AV} (h:CF f c):AV.refs.go c=false:=by
 obtain ⟨a,b,ha,hb,rfl⟩:=h
 simp only [AV.refs.go,ha.refs (Nd _),hb.refs (JA _)]
 rfl
theorem GF.refs {l:List FT} {G:List (List AV)} (h:GF l G):AV.refs.go (G.map AV.agg)=false:=by
 have:∀ G:List (List AV),(∀ c∈G,AV.refs.go c=false)→AV.refs.go (G.map AV.agg)=false:=by
  intro G
  induction G with
  | nil=>intro _; rfl
  | cons c G ih =>
    intro hG
    simp only [List.map_cons,AV.refs.go,ih fun x hx=>hG x (List.mem_cons_of_mem _ hx),AV.refs,hG c List.mem_cons_self]
    rfl
 exact this G fun c hc=>by
  obtain ⟨f,_,hf⟩:=h.mem hc
  exact hf.refs
theorem V6 (L:List Int):still (zx L)=true:=by
 simp [still,zx,beqA,Jo]
def RowO (s0 q:St) (n:En) (v:AV) (l:List FT) (G:List (List AV)):Prop:=(Hp s0 q n [⟨6,60,v,l.map FT.av,true⟩] []∧Av v≠none∧G=l.map FT.cells)∨(∃ id,v=.bl id 6 0 l.length (l.length*6,false)∧Hp s0 q n [] [(id,.row 60 G.flatten false 0)])
theorem RowO.thaw {s0 q:St} {n:En} {v:AV} {l:List FT} {G:List (List AV)} (h:RowO s0 q n v l G) (f:FT) :
    ∃ q1,stA (q.new (.cells 60 [.b false,.i .u8 0,.nsl,.nsl,.i .i64 0,.i .i64 0])) 6 (.p q.nb 0) (.agg f.cells)=some q1∧∃ id q2,FO q1 v=some (.bl id 6 0 l.length (l.length*6,false),q2)∧Hp s0 q2 n [] [(id,.row 60 G.flatten false 0),(q.nb,.cells 60 f.cells)]:=by
 rcases h with ⟨H,hv,rfl⟩ | ⟨id,rfl,H⟩
 · obtain ⟨q1,d1,H1,n1⟩:=H.adp (T:=60) (m:=6) (z:=[.b false,.i .u8 0,.nsl,.nsl,.i .i64 0,.i .i64 0]) (v:=.agg f.cells) rfl ⟨rfl,rfl⟩
   obtain ⟨q2,d2,H2,n2⟩:=H1.thaw 0 rfl hv [] (by simp) (by simp)
   rw [← N1,MH] at H2
   rw [List.length_map] at d2
   exact ⟨q1,d1,_,q2,d2,H2⟩
 · obtain ⟨q1,d1,H1,n1⟩:=H.adp (T:=60) (m:=6) (z:=[.b false,.i .u8 0,.nsl,.nsl,.i .i64 0,.i .i64 0]) (v:=.agg f.cells) rfl ⟨rfl,rfl⟩
   exact ⟨q1,d1,id,q1,rfl,H1.sel [] [1,0] (by simp) (by simp)⟩
end Go.Proofs.Ytgloinighjdhlaa

namespace Go.Proofs.Ytgloinighjdhlaa
theorem RR {α:Type} {l:List α} {i:Nat} {f:α} (h:l[i]? = some f):l.set i f=l:=by
 apply List.ext_getElem?
 intro j
 rw [List.getElem?_set]
 by_cases hj:i=j
 · subst hj
   rw [if_pos rfl,if_pos (List.getElem?_eq_some_iff.1 h).1,h]
 · rw [if_neg hj]

open Go.Proofs.Ytgloinighjdhlaa.Am
abbrev apAI:C:=subC Ak.body [1,0,1,0,0]
abbrev apCI:C:=subC Ak.body [1,0,1,0,1]
def AII (L:List Int) (s:St) (k ido:Nat) (e:Tr) (j:Nat) (q:St):Prop :=
 q.box? k=some (.loop 0 none e [7] apAI apCI)∧RP 1 (k+1) s.nt s.nt 3 37 ido ((L.take j).map iv) q∧(j=0→q.box? ido=some (.cells 37 [.nsl]))
theorem YR {L:List Int} {s:St} {k ido:Nat} {e:Tr} (hido:ido < k) (hs:s.nb≤ido) (hl:L.length < 2^37) (g2:e.get 2=.p ido 0) :
    Body prog (fun _=>False) s (k+1) s.nt (.yld k) (L.map iv) (AII L s k ido e) (fun _=>False) where
 stab:=fun j q q' ⟨h1,h2,h3⟩ f=>⟨by rw [f.box k (by omega) (by simp)]; exact h1,h2.fr (by omega) (by simp) f,fun hj=>by rw [f.box ido (by omega) (by simp)]; exact h3 hj⟩
 stab0:=fun q q' h f=>⟨by rw [f.box k (by omega) (by simp)]; exact h.1,h.2.1.fr0 (fun a k' h1 h2=>by rw [h.2.2 rfl] at h1; cases h1; simp [Av] at h2) (by omega) (by simp) f,fun hj=>by rw [f.box ido (by omega) (by simp)]; exact h.2.2 hj⟩
 stabR:=fun _ _ h _=>h
 step:=by
  intro j hj q ⟨hk,hI,_⟩ hov hw hh ht
  have hj':j < L.length:=by simpa using hj
  have hLj:(L.map iv)[j]=.i .i64 L[j]:=by simp [iv]
  rw [hLj]
  obtain ⟨x,hx⟩:∃ x,L[j]=x:=⟨_,rfl⟩
  rw [hx]
  have hst:L.take (j+1)=L.take j++[x]:=by rw [List.take_succ_eq_append_getElem hj',hx]
  have hylen:(L.take j).length≤L.length:=by simp; omega
  obtain ⟨Y,hY⟩:∃ Y,L.take j=Y:=⟨_,rfl⟩
  rw [hY] at hI hst hylen
  obtain ⟨q1,hq1⟩:∃ q1,q.setBox k (.loop 1 none e [7] apAI apCI)=q1:=⟨_,rfl⟩
  have w1:Wf q1:=by rw [← hq1]; exact hw.setBox _ _
  have nb1:q1.nb=q.nb∧q1.nt=q.nt∧q1.lo=q.lo:=by rw [← hq1]; exact ⟨rfl,rfl,rfl⟩
  have bx1:∀ i,q1.box? i=if i=k then some (.loop 1 none e [7] apAI apCI) else q.box? i:=fun i=>by rw [← hq1]; exact setBox_box? hw.b (by omega) i
  have ov1:Over s q1:=by rw [← hq1]; exact Over.setBox hov (by omega) (by omega) _
  obtain ⟨a,hb,hr,htok⟩:=hI
  have hb1:q1.box? ido=some (.cells 37 [a]):=by rw [bx1,if_neg (by omega)]; exact hb
  have hr1:RowP 1 s.nt q1 3 a (Y.map iv):=hr.mono (by omega) fun k _=>by rw [← hq1]; rfl
  have lda:=JM (s:=q1) (v:=a) (off:=0) hb1 rfl
  have b1k:=bx1 k
  rw [if_pos rfl] at b1k
  have hel:elems q1 1 (.sl 1 [.i .i64 x] .full)=some [.i .i64 x]:=by simp [elems,St.ok]
  have al:Ag 1 [AV.i .i64 x]=true:=rfl
  obtain ⟨a',q2,e2,hr2,hg,href,hc⟩:=VS w1 (by omega) hr1 hel (by simp) (by simp; omega)
  have hm:Y.map iv++[AV.i .i64 x]=(Y++[x]).map iv:=by simp [iv]
  rw [hm] at hr2
  obtain ⟨q3,e3,r3,nb3,nt3,w3,bx3,ov3⟩:=RP.store (h:=k+1) (tB:=s.nt) hb1 hg hr2 hc href w1 (by omega) (by omega)
  have b3k:q3.box? k=some (.loop 1 none e [7] apAI apCI):=by rw [bx3 k (by omega)]; exact b1k
  have hfin:∀ e':Tr,YK k (TM (fun _=>False) (k+1) s q (AII L s k ido e (j+1)) (fun _=>False)) .n e' q3:=fun e'=>by
   refine TN b3k (by omega) w3 (ov3 s hs (Nat.le_refl _) (by omega) ov1) (by omega) (by omega) (by omega) (by simp) (fun i hi hlt=>by have hi':k+1≤i:=hi.resolve_left id; rw [bx3 i (by omega),bx1,if_neg (by omega)]) (fun _=>⟨?_,?_,fun hh=>by simp at hh⟩) (fun hh=>by simp at hh) (fun i hh=>by simp at hh)
   · rw [setBox_box? w3.b (by omega),if_pos rfl]
   · rw [hst]
     exact r3.fr (O:=fun i=>i=k) (by omega) (show ¬ (ido=k) by omega) (Fr.setBox (O:=fun i=>i=k) (tB:=s.nt) (h:=k+1) (id:=k) w3 (by omega) (.inr rfl) (by omega) _)
  refine Ry ?_
  refine TL (t:=e.set 10 7 (.i .i64 x)) hk rfl ?_
  simp only [apAI,Ak,subC,go_sem,Ah,AH,AJ,AK,Ae,KB_n,KB_x,Nat.reduceBEq,Nat.reduceAdd,Nat.reduceLT,Nat.reduceLeDiff,Nat.reduceEqDiff,reduceIte,Int.reduceEq,reduceCtorEq]
  refine ⟨_,_,_,_,hk,?_⟩
  rw [hq1]
  have hz:a=.nsl∨∃ k v,a=.sl 1 (Y.map iv) (.tok k v):=by
   rcases hr with ⟨rfl,_⟩ | ⟨k,v,t,rfl,_⟩
   · exact .inl rfl
   · exact .inr ⟨k,v,rfl⟩
  rcases hz with rfl | ⟨k',v,rfl⟩ <;>
   (simp only [apCI,Ak,subC,go_sem,Ah,AH,AJ,AK,Ae,KB_n,KB_x,Nat.reduceBEq,Nat.reduceAdd,Nat.reduceLT,Nat.reduceLeDiff,Nat.reduceEqDiff,reduceIte,Int.reduceEq,reduceCtorEq,g2,Nat.zero_add,lda,al,e2,e3]
    exact hfin _)
theorem PC {L:List Int} (hl:L.length < 2^37) {g:Nat} {caps:List AV} {s:St} (hw:Wf s) (hit:∀ q,(∀ i,i < s.nb→q.box? i=s.box? i)→s.nb≤q.nb→TJ prog (fun _=>False) q.nb g caps (L.map iv) q) :
    ∃ r s',(lim prog).call Cu [.nsl,.fn g caps] s=some (r,s')∧RowP 1 s.nt s' 3 r (L.map iv)∧Up s s':=by
 refine fn_K (t:=4) (Post:=fun r s'=>RowP 1 s.nt s' 3 r (L.map iv)∧Up s s') Fk rfl rfl rfl rfl ?_
 obtain ⟨q2,hq2⟩:∃ q2,s.enter.new (.cells 37 [.nsl])=q2:=⟨_,rfl⟩
 have w2:Wf q2:=by rw [← hq2]; exact hw.enter.new _
 have n2:q2.nb=s.nb+1∧q2.nt=s.nt∧q2.lo=s.nb:=by rw [← hq2]; exact ⟨rfl,rfl,rfl⟩
 have ov2:Over s q2:=by rw [← hq2]; exact (Over.enter s).new _
 have bo2:q2.box? s.nb=some (.cells 37 [.nsl]):=by rw [← hq2]; exact BR s.enter _
 have bx2:∀ i,i < s.nb→q2.box? i=s.box? i:=fun i hi=>by rw [← hq2]; exact El (s:=s.enter) hi
 have hnb:s.enter.nb=s.nb:=rfl
 have c1:AV.nsl.cells=[.nsl]:=rfl
 have hl1:∀ a:AV,[a].length=1:=fun _=>rfl
 simp only [Ak,go_sem,Ah,AH,AJ,AK,Ae,KB_n,KB_x,Nat.reduceBEq,Nat.reduceAdd,Nat.reduceLT,Nat.reduceLeDiff,Nat.reduceEqDiff,reduceIte,Int.reduceEq,reduceCtorEq,hnb,c1,hl1,hq2]
 refine W_cut (fun e=>e.get 2=.p s.nb 0∧e.get 6=.fn g caps) ⟨?_,?_⟩ ?_
 · simp only [go_sem,Ah,AH,AJ,AK,Ae,KB_n,KB_x,Nat.reduceBEq,Nat.reduceAdd,Nat.reduceLT,Nat.reduceLeDiff,Nat.reduceEqDiff,reduceIte,Int.reduceEq,reduceCtorEq]
 · simp only [go_sem,Ah,AH,AJ,AK,Ae,KB_n,KB_x,Nat.reduceBEq,Nat.reduceAdd,Nat.reduceLT,Nat.reduceLeDiff,Nat.reduceEqDiff,reduceIte,Int.reduceEq,reduceCtorEq]
 rintro e ⟨g2,g6⟩
 obtain ⟨q3,hq3⟩:∃ q3,q2.new (.loop 0 none e [7] apAI apCI)=q3:=⟨_,rfl⟩
 have w3:Wf q3:=by rw [← hq3]; exact w2.new _
 have n3:q3.nb=s.nb+2∧q3.nt=s.nt:=by rw [← hq3]; exact ⟨by show q2.nb+1=_; omega,n2.2.1⟩
 have ov3:Over s q3:=by rw [← hq3]; exact ov2.new _
 have bx3:∀ i,i < q2.nb→q3.box? i=q2.box? i:=fun i hi=>by rw [← hq3]; exact El hi
 have bk3:q3.box? q2.nb=some (.loop 0 none e [7] apAI apCI):=by rw [← hq3]; exact BR _ _
 obtain ⟨q4,hc4,ov4,w4,n4,t4,hI4⟩:=hit q3 (fun i hi=>by rw [bx3 i (by omega),bx2 i hi]) (by omega) s (q2.nb+1) s.nt q2.nb _ _
  (YR (k:=q2.nb) (ido:=s.nb) (e:=e) (by omega) (Nat.le_refl _) hl g2)
  ⟨bk3,⟨.nsl,by rw [bx3 _ (by omega)]; exact bo2,.inl ⟨rfl,rfl⟩,fun k hk=>by simp [Av] at hk⟩,fun _=>by rw [bx3 _ (by omega)]; exact bo2⟩ ov3 w3 (by omega) (by omega) (by omega) (by omega)
 rw [← hq3] at hc4
 refine W_rf g6 hc4 ?_
 rcases hI4 with ⟨k1,⟨a,k2,k3,k4⟩,_⟩ | h
 · refine ⟨_,_,_,_,_,_,k1,by decide,?_⟩
   have b5:(q4.setBox q2.nb .used).box? s.nb=some (.cells 37 [a]):=by rw [setBox_box? w4.b (by omega),if_neg (by omega)]; exact k2
   have lda:=JM (s:=q4.setBox q2.nb .used) (v:=a) (off:=0) b5 rfl
   have ov5:Over s (q4.setBox q2.nb .used):=Over.setBox ov4 (by omega) (by omega) _
   have w5:Wf (q4.setBox q2.nb .used):=w4.setBox _ _
   rw [List.length_map,List.take_length] at k3
   have hfin:RowP 1 s.nt { q4.setBox q2.nb .used with lo:=min s.lo (q4.setBox q2.nb .used).lo } 3 a (L.map iv):=k3.mono (Nat.le_refl _) fun _ _=>rfl
   rcases SJ k3 with ⟨rfl,_⟩ | ⟨k,v,rfl⟩ <;>
    (simp only [go_sem,Ah,AH,AJ,AK,Ae,KB_n,KB_x,Nat.reduceBEq,Nat.reduceAdd,Nat.reduceLT,Nat.reduceLeDiff,Nat.reduceEqDiff,reduceIte,Int.reduceEq,reduceCtorEq,KK_n,KK_r,g2,lda,Nat.zero_add]
     exact ⟨hfin,Up.of ov5 w5⟩)
 · exact h.elim
theorem SA {L:List Int} (hl:L.length < 2^37) {g:Nat} {caps:List AV} {s:St} (hw:Wf s) (hit:∀ q,(∀ i,i < s.nb→q.box? i=s.box? i)→s.nb≤q.nb→TJ prog (fun _=>False) q.nb g caps (L.map iv) q) :
    ∃ r s',(lim prog).call Dx [.fn g caps] s=some (r,s')∧RowP 1 s.nt s' 3 r (L.map iv)∧Up s s':=by
 refine fn_K (t:=2) (Post:=fun r s'=>RowP 1 s.nt s' 3 r (L.map iv)∧Up s s') IL rfl rfl rfl rfl ?_
 obtain ⟨r,s',h,hr,hu⟩:=PC (s:=s.enter) hl hw.enter hit
 have hov:Over s s':=hu.over s (Over.enter s)
 have hfin:RowP 1 s.nt { s' with lo:=min s.lo s'.lo } 3 r (L.map iv):=hr.mono (Nat.le_refl _) fun _ _=>rfl
 simp only [CV,go_sem,Ah,AH,AJ,AK,Ae,KB_n,KB_x,Nat.reduceBEq,Nat.reduceAdd,Nat.reduceLT,Nat.reduceLeDiff,Nat.reduceEqDiff,reduceIte,Int.reduceEq,reduceCtorEq,KK_n,KK_r,h]
 exact ⟨hfin,Up.of hov hu.wf⟩

attribute [local irreducible] W WO WE WQ WD Tr.get Tr.set
theorem SB {m a:Nat} {L:List Int} (hl:L.length < 2^40) {s:St} (ha:s.box? a=some (.cells 37 [zx L])) (la:a < s.nb) :
    TJ prog (fun _=>False) m Ac [.p a 0] (L.map iv) s:=by
 intro s0 h tB ky I R B hI hov hw hh ht h0 _
 obtain ⟨r,s',hcall,rfl,hres⟩:=fn_G (f:=Ac) (args:=[.yld ky,.p a 0]) (s:=s) (Post:=fun r s'=>r=.tup []∧Over s0 s'∧Wf s'∧s.nb≤s'.nb∧s.nt≤s'.nt∧(I L.length s'∨R s')) Fz rfl rfl (by
  have hend:∀ q,Over s0 q→Wf q→s.nb≤q.nb→s.nt≤q.nt→(I L.length q∨R q)→KH s [] (fun r s'=>r=.tup []∧Over s0 s'∧Wf s'∧s.nb≤s'.nb∧s.nt≤s'.nt∧(I L.length s'∨R s')) (some ([],q)):=fun q k1 k2 k3 k4 k5=>by
   obtain ⟨f1,f2,f3,f4,f5⟩:=VR (O:=fun _=>False) (h:=h) (tB:=tB) (v:=.tup []) k2 hh k3 k4 ht rfl
   refine ⟨_,_,rfl,rfl,f5 s0 hov k1,f2,f3,f4,k5.imp (fun k=>B.stab _ _ _ k f1) fun k=>B.stabR _ _ k f1⟩
  have lda:=JM (s:=s.enter) (v:=zx L) (off:=0) ha rfl
  unfold zx at lda
  have hz0:wkZ A6.cin [.yld ky,.p a 0]=[.yld ky,.p a 0]:=by simp [A6,wkZ,wk]
  rw [hz0]
  simp only [A6,go_sem,AE,AA,AC,AB,KB_n,KB_x,Nat.reduceBEq,Nat.reduceAdd,Nat.reduceLT,Nat.reduceLeDiff,Nat.reduceEqDiff,reduceIte,Int.reduceEq,reduceCtorEq,lda,List.length_map]
  refine CH (fun n e q=>∃ j:Nat,j+n=L.length∧I j q∧Over s0 q∧Wf q∧s.nb≤q.nb∧s.nt≤q.nt∧e.get 0=.yld ky∧e.get 5=zx L∧e.get 6=.i .i64 (L.length:Nat)∧e.get 7=.i .i64 (j:Nat)) ?_ L.length _ _ ?_
  · rintro n e q ⟨j, hn, hIj, hovq, hwq, hnb, hnt,g0,g5,g6,g7⟩
    by_cases hj:j < L.length
    · have h1:((j:Int) < (L.length:Int))=True:=eq_true (by omega)
      obtain ⟨z,hz⟩:∃ z,L[j]? = some z:=⟨_,List.getElem?_eq_getElem hj⟩
      have hz2:=JY hz
      have hw1:=A9 (show j+1 < 2^63 by omega)
      have hLj:(L.map iv)[j]'(by simpa using hj)=.i .i64 z:=by
       rw [List.getElem_map,(List.getElem?_eq_some_iff.1 hz).2]; rfl
      obtain ⟨bb,q',hstep,ht1,hf1,hov1,hw2,hnb1,hnt1,hkeep⟩:=B.step j (by simpa using hj) q hIj hovq hwq (by omega) (by omega)
      rw [hLj] at hstep
      cases bb with
      | true =>
        simp only [go_sem,AE,AA,AC,AB,KB_n,KB_x,Nat.reduceBEq,Nat.reduceAdd,Nat.reduceLT,Nat.reduceLeDiff,Nat.reduceEqDiff,reduceIte,Int.reduceEq,reduceCtorEq,g0,g5,g6,g7,zx,h1,AI,hz2,CK,Dy,hstep,hw1]
        exact ⟨n - 1,by omega,j+1,by omega,ht1 rfl,hov1,hw2,by omega,by omega,rfl⟩
      | false =>
        simp only [go_sem,AE,AA,AC,AB,KB_n,KB_x,Nat.reduceBEq,Nat.reduceAdd,Nat.reduceLT,Nat.reduceLeDiff,Nat.reduceEqDiff,reduceIte,Int.reduceEq,reduceCtorEq,g0,g5,g6,g7,zx,h1,AI,hz2,CK,Dy,hstep]
        exact hend q' hov1 hw2 (by omega) (by omega) (.inr (hf1 rfl))
    · have h1:((j:Int) < (L.length:Int))=False:=eq_false (by omega)
      simp only [go_sem,AE,AA,AC,AB,KB_n,KB_x,Nat.reduceBEq,Nat.reduceAdd,Nat.reduceLT,Nat.reduceLeDiff,Nat.reduceEqDiff,reduceIte,Int.reduceEq,reduceCtorEq,g0,g5,g6,g7,h1]
      exact hend q hovq hwq hnb hnt (.inl (by have:j=L.length:=by omega
                                              rw [← this]; exact hIj))
  · simp only [go_sem,AE,AA,AC,AB,KB_n,KB_x,Nat.reduceBEq,Nat.reduceAdd,Nat.reduceLT,Nat.reduceLeDiff,Nat.reduceEqDiff,reduceIte,Int.reduceEq,reduceCtorEq]
    exact ⟨0,by omega,B.stab0 _ _ hI (Fr0.enter hh),hov.toEnter,hw.enter,Nat.le_refl _,Nat.le_refl _,rfl,rfl⟩)
 obtain ⟨k1,k2,k3,k4,k5⟩:=hres
 exact ⟨s',hcall,k1,k2,k3,k4,by simpa using k5⟩

theorem MJ:∀ {n:Nat} {l:List AV},l.length=n→FN 1 n l=l
 | 0,[],_=>rfl
 | n+1,a::l,h=>by
   simp only [List.length_cons,Nat.add_right_cancel_iff] at h
   rw [FN,if_pos rfl,List.take_succ_cons,List.take_zero,List.drop_succ_cons,List.drop_zero,MJ h]
   rfl
theorem PD:∀ L:List Int,ones (L.map iv)=true
 | []=>rfl
 | z::L=>PD L
theorem V7 {s:St} {L:List Int} {id T rm:Nat} {fz:Bool} {p:Nat×Bool} (hb:s.box? id=some (.row T (L.map iv) fz rm)) :
    frz s (.bl id 1 0 L.length p)=some (.sl 1 (L.map iv) .shut,s.setBox id (.row T (L.map iv) true rm)):=by
 have hc:cut (L.map iv) 0 (L.length*1)=some (L.map iv):=by
  unfold cut
  rw [List.drop_zero,Nat.mul_one,List.take_of_length_le (by simp),if_pos (by simp)]
 simp only [frz,hb,hc]
 rw [if_pos ⟨Nat.zero_le _,PD L,by decide⟩,MJ (by simp)]
theorem UD {L:List Int} (hl:L.length < 2^36) {s:St} (hw:Wf s) {a:Nat} (ha:s.box? a=some (.cells 37 [zx L])) (la:a < s.nb) :
    (lim prog).call D5 [.fn Ac [.p a 0]] s=some (zx (Ha L),s):=by
 refine fn_W Iu rfl rfl ?_
 have hz0:wkZ BZ.cin [.fn Ac [.p a 0]]=[.fn Ac [.p a 0]]:=by simp [BZ,wkZ,wk]
 rw [hz0]
 obtain ⟨r,s1,hc,hr,hu⟩:=SA (L:=L) (by omega) hw.enter (s:=s.enter) (g:=Ac) (caps:=[.p a 0]) fun q h1 h2=>SB (by omega) (by rw [h1 a la]; exact ha) (Nat.lt_of_lt_of_le la h2)
 have hov:Over s s1:=hu.over s (Over.enter s)
 rcases hr with ⟨rfl,hL⟩ | ⟨k,v,t,rfl,k1,k2,k3,k4,k5,k6,k7⟩
 · rw [List.map_eq_nil_iff] at hL
   subst hL
   have hp:(lim prog).call Cw [.nsl] s1=some (.tup [],s1):=(Dn E0 rfl).trans rfl
   have hth:FO s1 .nsl=some (.nsl,s1):=rfl
   simp only [BZ,go_sem,AE,AA,AC,AB,KB_n,KB_x,Nat.reduceBEq,Nat.reduceAdd,Nat.reduceLT,Nat.reduceLeDiff,Nat.reduceEqDiff,reduceIte,Int.reduceEq,reduceCtorEq,hc,hth,hp]
   exact AU hov rfl (by simp [Ha,Bs,wkZ,wk,zx])
 · have K:Hp s s1 ⟨s1.lo,s.nb,s.nt⟩ [⟨1,3,.sl 1 (L.map iv) (.tok k v),L.map iv,true⟩] []:={
    wf:=hu.wf
    over:=hov
    lo:=Nat.le_refl _
    nb:=hov.nb
    nt:=hov.nt
    rows:=fun {i r} hi=>by
     cases i with
     | zero =>
       simp only [List.getElem?_cons_zero,Option.some.injEq] at hi
       subst hi
       exact .inr ⟨k,v,t,rfl,k1,k2,k3,k4,k5,k6,fun _=>k7⟩
     | succ i=>simp at hi
    apart:=fun {i j r r' k} hij hi hj=>by
     cases i with
     | zero=>cases j with
       | zero=>exact absurd rfl hij
       | succ j=>simp at hj
     | succ i=>simp at hi
    box:=fun {i p} hi=>by simp at hi
    bapart:=fun {i j p q} _ hi _=>by simp at hi }
   obtain ⟨q2,d2,H2,n2⟩:=K.thaw 0 rfl (by simp [Av]) [] (by simp) (by simp)
   rw [Ph] at H2
   rw [List.length_map,Nat.mul_one] at d2
   obtain ⟨q3,d3,H3,n3⟩:=H2.sortI 0 rfl (by omega) (L.length,false)
   have hp:(lim prog).call Cw [.bl s1.nb 1 0 L.length (L.length,false)] q2=some (.tup [],q3):=(Dn E0 rfl).trans d3
   have hbx:=(H3.box (i:=0) rfl).1
   have hfz:=V7 (L:=Ha L) (p:=(L.length,false)) hbx
   rw [Hb] at hfz
   have hpa:pubA q3 (.bl s1.nb 1 0 L.length (L.length,false))=_:=hfz
   have H4:=H3.setBox (i:=0) rfl (.row 3 ((Ha L).map iv) true 0)
   simp only [BZ,go_sem,AE,AA,AC,AB,KB_n,KB_x,Nat.reduceBEq,Nat.reduceAdd,Nat.reduceLT,Nat.reduceLeDiff,Nat.reduceEqDiff,reduceIte,Int.reduceEq,reduceCtorEq,hc,d2,hp,hpa]
   refine AU H4.over (by simp only [Bs,AV.refs,JA]) ?_
   simp only [Bs,wkZ,wk,Rp]
   rfl
theorem UE (L:List Int) (s:St):(lim prog).call Ca [zx L] s=some (.fn Ac [.p s.nb 0],{ s.new (.cells 37 [zx L]) with lo:=min s.lo s.nb }):=by
 obtain ⟨r,s',h,rfl,rfl⟩:=fn_G (f:=Ca) (args:=[zx L]) (s:=s) (Post:=fun r s'=>r=.fn Ac [.p s.nb 0]∧s'={ s.new (.cells 37 [zx L]) with lo:=min s.lo s.nb }) Gr rfl rfl (by
  have hz0:wkZ BN.cin [zx L]=[zx L]:=by simp only [BN,wkZ,zx,wk]
  have hl1:∀ a:AV,[a].length=1:=fun _=>rfl
  rw [hz0]
  simp only [BN,go_sem,AE,AA,AC,AB,KB_n,KB_x,Nat.reduceBEq,Nat.reduceAdd,Nat.reduceLT,Nat.reduceLeDiff,Nat.reduceEqDiff,reduceIte,Int.reduceEq,reduceCtorEq,zx,hl1]
  exact ⟨_,_,rfl,rfl,J7 rfl⟩)
 exact h
theorem UF {l:List FT} (hm:mayP l=true) {s q:St} (ho:Over s q) {b:Nat} (hb:s.box? b=some (.cells 22 [fx l])) (lb:b < s.nb) {i:Nat} {f:FT} (hf:l[i]? = some f) {z:Int} (hz:z∈besP f) (hwq:Wf q) :
    Dk (lim prog) (.fn Df [.p b 0]) [.i .i64 z] q=some (.b (F0 l z),q):=by
 show (lim prog).call Df [.i .i64 z,.p b 0] q=_
 refine fn_W MB rfl rfl ?_
 have hbq:q.box? b=some (.cells 22 [fx l]):=by rw [Nx ho lb]; exact hb
 have lbq:b < q.nb:=Nat.lt_of_lt_of_le lb ho.nb
 have ld:=Ny (Over.enter q) (off:=0) (v:=fx l) lbq hbq rfl
 obtain ⟨j,g,rfl,hg⟩:=T9 hm hf (T8 hz)
 have hg3:=Fc hg
 have l0:∀ u,ldA u false 1 (.ep g.cells 0 .shut)=some (.b g.known):=fun u=>rfl
 have l1:∀ u,ldA u false 1 (.ep g.cells 1 .shut)=some (.i .u8 (g.kind:Nat)):=fun u=>rfl
 have hit:F0 l (j:Int)=(g.known&&decide (g.kind≠0)):=by
  unfold F0
  rw [Int.toNat_natCast,hg]
 have hkk:((g.kind:Int)≠0)=(g.kind≠0):=by simp
 have hth:FO q.enter (.p b 0)=some (.p b 0,q.enter):=by
  have hbq':q.enter.box? b=some (.cells 22 [fx l]):=hbq
  simp only [FO,hbq',fx]; rfl
 unfold fx at ld
 rw [hit]
 cases hkn:g.known
 · rw [hkn] at l0
   simp only [DC,go_sem,AE,AA,AC,AB,KB_n,KB_x,Nat.reduceBEq,Nat.reduceAdd,Nat.reduceLT,Nat.reduceLeDiff,Nat.reduceEqDiff,reduceIte,Int.reduceEq,reduceCtorEq,hth,ld,AI,hg3,Bx,l0,l1,hkk]
   exact AU (Over.enter q) rfl rfl
 · rw [hkn] at l0
   simp only [DC,go_sem,AE,AA,AC,AB,KB_n,KB_x,Nat.reduceBEq,Nat.reduceAdd,Nat.reduceLT,Nat.reduceLeDiff,Nat.reduceEqDiff,reduceIte,Int.reduceEq,reduceCtorEq,hth,ld,AI,hg3,Bx,l0,l1,hkk]
   refine AU (Over.enter q) rfl ?_
   simp only [Bs,wkZ,wk,Bool.true_and]
theorem V8 {l:List FT} (hm:mayP l=true) {i:Nat} {f:FT} (hf:l[i]? = some f) (hfo:f.Ok) (hb0:0≤f.beside) (hb1:f.beside≤(f.kids.length:Int)) (s:St) (hw:Wf s) :
    (lim prog).call CZ [fx l,.agg f.cells] s=some (.b (IS l f),s):=by
 refine fn_W JV rfl rfl ?_
 have hz0:wkZ DM.cin [fx l,.agg f.cells]=[fx l,.agg f.cells]:=by
  have:=N0 f
  simp only [DM,wkZ,wk,fx] at this ⊢
  rw [this]
 rw [hz0]
 have H1:=((Hp.begin hw).new (.cells 22 [fx l])).new (.cells 60 f.cells)
 generalize hq:(s.enter.new (.cells 22 [fx l])).new (.cells 60 f.cells)=q at H1
 generalize hm1:s.enter.nb=m1 at H1
 have hm2:(s.enter.new (.cells 22 [fx l])).nb=m1+1:=by rw [← hm1]; rfl
 rw [hm2] at H1
 have l3:=H1.ld 0 (off:=3) (v:=zx f.kids) rfl rfl
 have l5:=H1.ld 0 (off:=5) (v:=.i .i64 f.beside) rfl rfl
 have hv:=UE f.kids q
 obtain ⟨q2,hq2⟩:∃ q2,({ q.new (.cells 37 [zx f.kids]) with lo:=min q.lo q.nb }:St)=q2:=⟨_,rfl⟩
 rw [hq2] at hv
 have ov1:=H1.over
 have w2:Wf q2:=by rw [← hq2]; exact (H1.wf.new _).lo _
 have ov2:Over s q2:=by rw [← hq2]; exact Over.setLo (ov1.new _) (by have:=ov1.lo; have:=ov1.nb; omega)
 have nq2:q2.nb=q.nb+1:=by rw [← hq2]; rfl
 have bq2:q2.box? q.nb=some (.cells 37 [zx f.kids]):=by rw [← hq2]; exact BR q _
 have bold:∀ j,j < q.nb→q2.box? j=q.box? j:=fun j hj=>by rw [← hq2]; exact El (s:=q) hj
 have hs:=UD (L:=f.kids) (by have:=hfo.klen; omega) w2 bq2 (by omega)
 have h1b:=H1.box (i:=1) rfl
 have h0b:=H1.box (i:=0) rfl
 simp only at h1b h0b
 have b1:q2.box? m1=some (.cells 22 [fx l]):=by rw [bold _ h1b.2.2]; exact h1b.1
 have b0:q2.box? (m1+1)=some (.cells 60 f.cells):=by rw [bold _ h0b.2.2]; exact h0b.1
 have l5':=JM (s:=q2) (v:=.i .i64 f.beside) (off:=5) b0 rfl
 have hc:=MG (besP f) (by
  unfold besP
  rw [List.length_drop,Hb]
  have:=hfo.klen; omega) Df [.p m1 0] (F0 l) q2 w2 (fun z hz=>UF hm (Over.enter q2) b1 (by have:=h1b.2.2; omega) hf hz w2.enter)
 obtain ⟨B,hB⟩:∃ B:Nat,f.beside=(B:Int):=⟨f.beside.toNat,by omega⟩
 have hsl:Bv q2 false 1 (zx (Ha f.kids)) (some (.i .i64 (B:Nat))) none none=some (zx (besP f),q2):=by
  have hlen:B≤(Ha f.kids).length:=by rw [Hb]; omega
  have hbd:CS ((Ha f.kids).map iv).length (some (.i .i64 (B:Nat))) none=some (B,(Ha f.kids).length):=by
   simp only [CS,AI,List.length_map]
   rw [if_pos ⟨hlen,Nat.le_refl _⟩]
  have hbs:besP f=(Ha f.kids).drop B:=by unfold besP; rw [hB,Int.toNat_natCast]
  simp only [zx,Bv,if_true,hbd]
  by_cases hw0:B=0
  · subst hw0
    rw [if_pos ⟨rfl,by simp⟩,hbs,List.drop_zero]
  · rw [if_neg (fun h=>hw0 h.1),hbs,List.map_drop,List.take_of_length_le (by simp)]
 rw [hB] at l5 l5'
 unfold zx at hs hv l3 hsl hc
 unfold fx at hq hm2
 simp only [DM,go_sem,AE,AA,AC,AB,KB_n,KB_x,Nat.reduceBEq,Nat.reduceAdd,Nat.reduceLT,Nat.reduceLeDiff,Nat.reduceEqDiff,reduceIte,Int.reduceEq,reduceCtorEq,CI,hq,hm1,hm2,fx,List.length_cons,List.length_nil,Nat.zero_add,l3,hv,hs,l5',hsl,hc]
 exact AU ov2 rfl rfl
end Go.Proofs.Ytgloinighjdhlaa

set_option maxHeartbeats 8000000
namespace Go.Proofs.Ytgloinighjdhlaa
open Go.Proofs.Ytgloinighjdhlaa.Am
noncomputable def dq (f:Nat):Fun:={ cin:=[],cout:=[],ntmps:=0,keep:=false,res:=[],body:=.bad,prim:=some (delegQ prog [] f) }
noncomputable def Ay (n:Nat):Option Fun :=
 if n=Bg then some Aj else
 if n=BL then some BM else
 if n=C3 then some DK else
 if n=BV then some AY else
 if n=A3 then some BD else
 if n=A4 then some BE else
 if n=AX then some BF else
 if n=Dc then some Cz else
 if n=Bt then some CJ else
 if n=EA then some C1 else
 if n=Ch then some Bq else
 if n=Ci then some C6 else
 if n=Dp then some Cc else
 if n=CM then some BH else
 if n=CN then some Cl else
 if n=D9 then some Cy else
 if n=Cf then some Bp else
 if n=Cg then some C5 else
 if n=Ce then some BP else
 if n=Ep then some DN else
 if n=Ab then some AL else
 if n=A2 then some AP else
 if n=Af then some AM else
 if n=Bj then some AO else
 if n=Bl then some Al else
 if n=Bk then some Ar else
 if n=Bd then some Ad else
 if n=BA then some c_touchstoneref22_with else
 if n=BW then some Ai else
 if n=BK then some Cb else
 if n=Az then some (dq Az) else
 if n=EN then some (dq EN) else
 if n=C4 then some (dq C4) else
 if n=CZ then some (dq CZ) else
 if n=A1 then some (dq A1) else
 if n=Ao then some (dq Ao) else
 if n=Aw then some (dq Aw) else none
theorem Fd:Ay Bg=some Aj:=rfl
theorem GK:Ay BL=some BM:=rfl
theorem PF:Ay C3=some DK:=rfl
theorem Fe:Ay BV=some AY:=rfl
theorem Hj:Ay A3=some BD:=rfl
theorem Hk:Ay A4=some BE:=rfl
theorem Hl:Ay AX=some BF:=rfl
theorem N5:Ay Dc=some Cz:=rfl
theorem MM:Ay Bt=some CJ:=rfl
theorem N6:Ay EA=some C1:=rfl
theorem MN:Ay Ch=some Bq:=rfl
theorem MO:Ay Ci=some C6:=rfl
theorem Ms:Ay Dp=some Cc:=rfl
theorem Kg:Ay CM=some BH:=rfl
theorem Kh:Ay CN=some Cl:=rfl
theorem N7:Ay D9=some Cy:=rfl
theorem MP:Ay Cf=some Bp:=rfl
theorem MQ:Ay Cg=some C5:=rfl
theorem MR:Ay Ce=some BP:=rfl
theorem PG:Ay Ep=some DN:=rfl
theorem DT:Ay Ab=some AL:=rfl
theorem ER:Ay A2=some AP:=rfl
theorem ES:Ay Af=some AM:=rfl
theorem Gs:Ay Bj=some AO:=rfl
theorem Gt:Ay Bl=some Al:=rfl
theorem Gu:Ay Bk=some Ar:=rfl
theorem GL:Ay Bd=some Ad:=rfl
theorem Gv:Ay BA=some c_touchstoneref22_with:=rfl
theorem F1:Ay BW=some Ai:=rfl
theorem GM:Ay BK=some Cb:=rfl
theorem Gw:Ay Az=some (dq Az):=rfl
theorem SC:Ay EN=some (dq EN):=rfl
theorem PH:Ay C4=some (dq C4):=rfl
theorem Mt:Ay CZ=some (dq CZ):=rfl
theorem Gx:Ay A1=some (dq A1):=rfl
theorem GN:Ay Ao=some (dq Ao):=rfl
theorem HI:Ay Aw=some (dq Aw):=rfl
/-! ### What is told -/
theorem GO {α:Type} (f:α→AV):∀ l:List α,(∀ x∈l,Ct (f x)=some (f x))→EH (l.map f)=some (l.map f)
 | [],_=>rfl
 | x::l,h=>by
   rw [List.map_cons,EH,h x (by simp),GO f l fun y hy=>h y (by simp [hy])]
theorem Es {α:Type} (f:α→AV) (n:Nat):∀ l:List α,(∀ x∈l,(f x).cells.length=n∧ones (f x).cells=true)→Ag n (l.map f)=true
 | [],_=>rfl
 | x::l,h=>by
   rw [List.map_cons,Ag,Es f n l fun y hy=>h y (by simp [hy])]
   obtain ⟨h1,h2⟩:=h x (by simp)
   simp [h1,h2]
theorem YS (L:List (List Nat)):Ct (tx L)=some (tx L):=by
 have h1:=GO AV.s L fun _ _=>rfl
 have h2:=Es AV.s 1 L fun _ _=>⟨rfl,rfl⟩
 simp only [tx,Ct,h1,h2,if_true]
theorem YT (L:List Int):Ct (zx L)=some (zx L):=by
 have h1:=GO iv L fun _ _=>rfl
 have h2:=Es iv 1 L fun _ _=>⟨rfl,rfl⟩
 simp only [zx,Ct,h1,h2,if_true]
theorem Cj {a b:AV} {l l':List AV} (h:Ct a=some b) (hl:EH l=some l'):EH (a::l)=some (b::l'):=by rw [EH,h,hl]
theorem RS {l l':List AV} (h:EH l=some l'):Ct (.agg l)=some (.agg l'):=by rw [Ct,h]
theorem UK (f:FT):Ct f.av=some f.av :=
 RS (Cj rfl (Cj rfl (Cj (YS f.names) (Cj (YT f.kids) (Cj rfl (Cj rfl rfl))))))
theorem J4 (l:List FT):Ct (fx l)=some (fx l):=by
 have h1:=GO FT.av l fun f _=>UK f
 have h2:=Es FT.av 6 l fun _ _=>⟨rfl,rfl⟩
 simp only [fx,Ct,h1,h2,if_true]
def RT (s:St) (a:AV) (l:List FT):Prop:=∃ a1 s1,Rm s a=some (a1,s1)∧Ct a1=some (fx l)
theorem UL (l:List FT) (s:St):RT s (fx l) l:=⟨fx l,s,rfl,J4 l⟩
theorem Iw (l:List AV):wkZ [] l=l:=by cases l<;>simp [wkZ]
theorem wf0:Wf s0:=⟨rfl,rfl⟩
/-! ### Functions that are told -/
theorem d_may {s:St} {a:AV} {l:List FT} (ha:RT s a l) (ho:FOk l):(lim Ay).call EN [a] s=some (.b (mayP l),s):=by
 obtain ⟨a1,s1,h1,h2⟩:=ha
 rw [Dn SC rfl]
 exact I5 (a1:=[a1]) (a2:=[fx l]) (s1:=s1) (by simp only [IP,h1]) (by simp only [Iw,EH,h2]) (may_ok l ho.ok ho.len ho.fl s0 wf0)
theorem d_long {s:St} {l:List FT} (ho:FOk l):(lim Ay).call Az [fx l] s=some (.b (N4 l),s):=by
 rw [Dn Gw rfl]
 exact I5 (a1:=[fx l]) (a2:=[fx l]) (s1:=s) rfl (by simp only [Iw,EH,J4]) (V9 l ho.ok s0 wf0)
theorem NH (f:FT):Ct (.agg f.cells)=some (.agg f.cells):=UK f
theorem d_dir {s:St} (f:FT):(lim Ay).call C4 [.agg f.cells] s=some (.b f.isDir,s):=by
 rw [Dn PH rfl]
 exact I5 (a1:=[.agg f.cells]) (a2:=[.agg f.cells]) (s1:=s) rfl (by simp only [Iw,EH,NH]) (QI f s0 wf0)
theorem YU {s:St} {l:List FT} (hm:mayP l=true) {i:Nat} {f:FT} (hf:l[i]? = some f) (hfo:f.Ok) (hb0:0≤f.beside) (hb1:f.beside≤(f.kids.length:Int)):(lim Ay).call CZ [fx l,.agg f.cells] s=some (.b (IS l f),s):=by
 rw [Dn Mt rfl]
 exact I5 (a1:=[fx l,.agg f.cells]) (a2:=[fx l,.agg f.cells]) (s1:=s) rfl (by simp only [Iw,EH,J4,NH]) (V8 hm hf hfo hb0 hb1 s0 wf0)
theorem YV (s:St):(lim Ay).call BK [] s=some (.b true,s):=Tu GM rfl rfl
theorem YW {s:St} {l:List FT} (ho:FOk l) (n:Int):(lim Ay).call Ao [fx l,.i .i64 n] s=some (.i .i64 (C2 l n),s):=by
 rw [Dn GN rfl]
 exact Qi (a1:=[fx l,.i .i64 n]) (a2:=[fx l,.i .i64 n]) (s1:=s) rfl (by simp only [Iw,EH,J4]; rfl) (RK l ho.ok ho.len ho.fl n s0 wf0)
theorem UM {s:St} {l:List FT} (ho:FOk l) (n:Int):(lim Ay).call Aw [fx l,.i .i64 n] s=some (.i .i64 (dirE l n),s):=by
 rw [Dn HI rfl]
 exact Qi (a1:=[fx l,.i .i64 n]) (a2:=[fx l,.i .i64 n]) (s1:=s) rfl (by simp only [Iw,EH,J4]; rfl) (QN l ho.ok ho.len ho.fl n s0 wf0)
theorem d_same {s:St} {a:AV} {l:List FT} (ha:RT s a l) (ho:FOk l):(lim Ay).call A1 [a,fx l] s=some (.b true,s):=by
 obtain ⟨a1,s1,h1,h2⟩:=ha
 rw [Dn Gx rfl]
 refine I5 (a1:=[a1,fx l]) (a2:=[fx l,fx l]) (s1:=s1) ?_ (by simp only [Iw,EH,h2,J4]) (UJ l ho.ok ho.len (fun f _=>by simp [SH]) s0 wf0)
 have:Rm s1 (fx l)=some (fx l,s1):=rfl
 simp only [IP,h1,this]

section
variable {s0 s q:St} {n:En} {R R':List RA} {B B':List (Nat×Box)}
theorem Rc {α:Type} {P:α→α→Prop} (hs:∀ x y,P x y→P y x) {l:List α} (h:l.Pairwise P) {i j:Nat} {x y:α} (hne:i≠j) (hx:l[i]? = some x) (hy:l[j]? = some y):P x y:=by
 rw [List.pairwise_iff_getElem] at h
 obtain ⟨h1,rfl⟩:=List.getElem?_eq_some_iff.1 hx
 obtain ⟨h2,rfl⟩:=List.getElem?_eq_some_iff.1 hy
 rcases Nat.lt_or_gt_of_ne hne with hl | hl
 · exact h i j h1 h2 hl
 · exact hs _ _ (h j i h2 h1 hl)
theorem Un {α:Type} {P:α→α→Prop} {l:List α} (h:∀ {i j:Nat} {x y:α},i≠j→l[i]? = some x→l[j]? = some y→P x y):l.Pairwise P:=by
 rw [List.pairwise_iff_getElem]
 intro i j hi hj hl
 exact h (by omega) (List.getElem?_eq_getElem hi) (List.getElem?_eq_getElem hj)
theorem _root_.Go.Proofs.Ytgloinighjdhlaa.Am.Hp.perm (H:Hp s0 s n R B) (hR:R.Perm R') (hB:B.Perm B'):Hp s0 s n R' B' where
 wf:=H.wf
 over:=H.over
 lo:=H.lo
 nb:=H.nb
 nt:=H.nt
 rows:=fun {i r} hr=>by
  have hm:=hR.symm.subset (List.mem_of_getElem? hr)
  obtain ⟨j,hj,rfl⟩:=List.mem_iff_getElem.1 hm
  exact H.rows (List.getElem?_eq_getElem hj)
 apart:=fun {i j r r' k} hne h1 h2 hk=>by
  have hp:R.Pairwise (fun r r'=>∀ k,Av r.a=some k→Av r'.a≠some k):=Un fun hne h1 h2 k hk=>H.apart hne h1 h2 hk
  have hs:∀ (r r':RA),(∀ k,Av r.a=some k→Av r'.a≠some k)→(∀ k,Av r'.a=some k→Av r.a≠some k):=fun r r' h k h1 h2=>h k h2 h1
  exact Rc hs (hR.pairwise hp fun {x y} h=>hs x y h) hne h1 h2 k hk
 box:=fun {i p} hp=>by
  have hm:=hB.symm.subset (List.mem_of_getElem? hp)
  obtain ⟨j,hj,rfl⟩:=List.mem_iff_getElem.1 hm
  exact H.box (List.getElem?_eq_getElem hj)
 bapart:=fun {i j p q} hne h1 h2=>by
  have hp:B.Pairwise (fun p q=>p.1≠q.1):=Un fun hne h1 h2=>H.bapart hne h1 h2
  exact Rc (P:=fun p q:Nat×Box=>p.1≠q.1) (fun p q h e=>h e.symm) (hB.pairwise hp fun {x y} h e=>h e.symm) hne h1 h2
theorem _root_.Go.Proofs.Ytgloinighjdhlaa.Am.Hp.back {R0:List RA} {B0:List (Nat×Box)} (H0:Hp s0 s n R0 B0) (H:Hp s0 q s.en R B):Hp s0 { q with lo:=min s.lo q.lo } n R B where
 wf:=H.wf.lo _
 over:=H.over.setLo (by have:=H0.over.lo; have:=H.over.lo; omega)
 lo:=by have:=H0.lo; simp only; omega
 nb:=by have h1:=H0.nb; have h2:=H.nb; simp only [St.en] at h2 ⊢; omega
 nt:=by have h1:=H0.nt; have h2:=H.nt; simp only [St.en] at h2 ⊢; omega
 rows:=fun h=>(H.rows h).mono (Nat.le_refl _) fun _ _=>rfl
 apart:=H.apart
 box:=H.box
 bapart:=H.bapart
theorem Qa:∀ {a b:List AV},ones a=true→ones b=true→ones (a++b)=true
 | [],_,_,h=>h
 | x::a,b,h,k=>by
   cases x<;>first | (simp [ones] at h; done) | exact Qa (a:=a) (by simpa only [ones] using h) k
theorem Wx {es:Nat}:∀ {xs:List AV},(∀ x∈xs,x.cells.length=es∧ones x.cells=true)→(CU xs).length=xs.length*es∧ones (CU xs)=true
 | [],_=>by simp [CU,ones]
 | x::xs,h=>by
   obtain ⟨h1,h2⟩:=Wx (xs:=xs) fun y hy=>h y (by simp [hy])
   obtain ⟨h3,h4⟩:=h x (by simp)
   simp only [CU]
   refine ⟨by rw [List.length_append,h1,h3,List.length_cons,Nat.add_mul]; omega,?_⟩
   exact Qa h4 h2
theorem _root_.Go.Proofs.Ytgloinighjdhlaa.Am.Hp.stR (H:Hp s0 s n R B) (i:Nat) {id T off:Nat} {cs:List AV} {v:AV} (h:B[i]? = some (id,.row T cs false 0)) (hoff:off < cs.length) (hv:v.cells=[v]∧ones [v]=true) :
    ∃ s',stA s 1 (.p id off) v=some s'∧Hp s0 s' n R (B.set i (id,.row T (cs.set off v) false 0)):=by
 have hb:(B.set i (id,Box.row T (cs.set off v) false 0))[i]? = some (id,.row T (cs.set off v) false 0):=by
  rw [List.getElem?_set,if_pos rfl,if_pos (by rw [List.getElem?_eq_some_iff] at h; exact h.1)]
 obtain ⟨h1,h2,h3⟩:=(H.setBox h (.row T (cs.set off v) false 0)).esc hb v
 refine ⟨_,?_,h1⟩
 have hbx:=(H.box h).1
 simp only at hbx
 have:Am.overR cs off [v] 0=some (cs.set off v):=by
  unfold Am.overR
  rw [if_pos ⟨by omega,by simp; omega⟩,List.set_eq_take_append_cons_drop,if_pos hoff]; rfl
 simp only [stA,hbx,hv.1,hv.2,List.length_cons,List.length_nil,Nat.zero_add,and_self,if_true,this]
theorem _root_.Go.Proofs.Ytgloinighjdhlaa.Am.Hp.ldR (H:Hp s0 s n R B) (i:Nat) {id T off:Nat} {cs:List AV} {v:AV} (h:B[i]? = some (id,.row T cs false 0)) (hc:cs[off]? = some v):ldA s false 1 (.p id off)=some v:=by
 have hbx:=(H.box h).1
 simp only at hbx
 simp only [ldA,St.cells?,hbx,cut]
 have:(cs.drop off).take 1=[v]:=by
  rw [List.take_one,List.head?_drop,hc]; rfl
 simp [this,scal]
end
structure KQ where
 f:FT
 nm:AV
 a:AV
def KQ.cells (p:KQ):List AV:=[.b p.f.known,.i .u8 (p.f.kind:Nat),p.nm,p.a,.i .i64 p.f.rest,.i .i64 p.f.beside]
def KQ.av (p:KQ):AV:=.agg p.cells
def Cok (a:AV) (xs:List AV):Prop:=Av a=none→DD 1 a xs
def KQ.ok (p:KQ):Prop:=Cok p.nm (p.f.names.map .s)∧Cok p.a (p.f.kids.map iv)
def KOk (K:List KQ):Prop:=∀ p∈K,p.ok
def Mw (f:FT):KQ:=⟨f,tx f.names,zx f.kids⟩
theorem Rd {a:AV} {xs:List AV} (h:Cok a xs) (l:List AV):ones (a::l)=ones l:=by
 cases hr:Av a with
 | none=>exact (h hr).ones l
 | some k =>
   unfold Av at hr
   split at hr
   · rfl
   · cases hr
theorem Yq (l:List FT):(l.map Mw).map KQ.av=l.map FT.av:=by
 rw [List.map_map]; rfl
theorem base_f (l:List FT):(l.map Mw).map KQ.f=l:=by
 rw [List.map_map]
 show l.map (fun f=>f)=l
 simp
theorem KOk.cells {K:List KQ} (h:KOk K):∀ x∈K.map KQ.av,x.cells.length=6∧ones x.cells=true:=by
 intro x hx
 obtain ⟨p,hp,rfl⟩:=List.mem_map.1 hx
 obtain ⟨h1,h2⟩:=h p hp
 refine ⟨rfl,?_⟩
 show ones (AV.b p.f.known::AV.i .u8 (p.f.kind:Nat)::p.nm::p.a::[.i .i64 p.f.rest,.i .i64 p.f.beside])=true
 simp only [ones,Rd h1,Rd h2]
theorem KOk.set {K:List KQ} (h:KOk K) {i:Nat} {p:KQ} (hp:p.ok):KOk (K.set i p):=fun q hq=>by
 rcases List.mem_or_eq_of_mem_set hq with hq | rfl
 · exact h q hq
 · exact hp
theorem Wy:∀ K:List KQ,FN 6 K.length (CU (K.map KQ.av))=K.map KQ.av
 | []=>rfl
 | p::K=>by
   have h:=Wy K
   rw [List.map_cons,CU,List.length_cons,FN,if_neg (by decide)]
   have h1:(p.av.cells++CU (K.map KQ.av)).take 6=p.cells:=rfl
   have h2:(p.av.cells++CU (K.map KQ.av)).drop 6=CU (K.map KQ.av):=rfl
   rw [h1,h2,h]; rfl
theorem MX {K:List KQ} {i j:Nat} {p:KQ} {v:AV} (h:K[i]? = some p) (hj:p.cells[j]? = some v):(CU (K.map KQ.av))[i*6+j]? = some v:=by
 induction K generalizing i with
 | nil=>simp at h
 | cons p0 K ih =>
   rw [List.map_cons,CU]
   have hj6:j < 6:=(List.getElem?_eq_some_iff.1 hj).1
   cases i with
   | zero =>
     simp only [List.getElem?_cons_zero,Option.some.injEq] at h; subst h
     rw [Nat.zero_mul,Nat.zero_add,List.getElem?_append_left (by exact hj6)]
     exact hj
   | succ i =>
     rw [List.getElem?_append_right (by show 6≤_; omega)]
     rw [show (i+1)*6+j - p0.av.cells.length=i*6+j by show (i+1)*6+j - 6=_; omega]
     exact ih (by simpa using h)
theorem OE {K:List KQ} {i j:Nat} {p g:KQ} {v:AV} (h:K[i]? = some p) (hj:j < 6) (hg:p.cells.set j v=g.cells):(CU (K.map KQ.av)).set (i*6+j) v=CU ((K.set i g).map KQ.av):=by
 induction K generalizing i with
 | nil=>simp at h
 | cons p0 K ih =>
   rw [List.map_cons,CU]
   cases i with
   | zero =>
     simp only [List.getElem?_cons_zero,Option.some.injEq] at h; subst h
     rw [Nat.zero_mul,Nat.zero_add,List.set_append,if_pos (by exact hj),List.set_cons_zero,List.map_cons,CU]
     congr 1
   | succ i =>
     rw [List.set_append,if_neg (by show ¬ _ < 6; omega),List.set_cons_succ,List.map_cons,CU]
     rw [show (i+1)*6+j - p0.av.cells.length=i*6+j by show (i+1)*6+j - 6=_; omega]
     rw [ih (by simpa using h)]
theorem MY (K:List KQ):(CU (K.map KQ.av)).length=K.length*6:=by
 induction K with
 | nil=>rfl
 | cons p K ih=>rw [List.map_cons,CU,List.length_append,ih,List.length_cons]; show 6+_=_; omega
section
variable {s0 s:St} {n:En} {R:List RA} {B:List (Nat×Box)}
end
end Go.Proofs.Ytgloinighjdhlaa

namespace Go.Proofs.Ytgloinighjdhlaa
open Go.Proofs.Ytgloinighjdhlaa.Am
theorem NI (s:St):(lim Ay).call Ab [tx []] s=some (.ws true 1 [],{ s with lo:=min s.lo s.nb }):=by
 rw [FA]
 unfold F5
 rw [DT]
 have h1:wkZ AL.cin [tx []]=[.ws false 1 []]:=by
  simp [AL,wkZ,wk,wkM]
 have h2:both AL [.ws false 1 []]=some (.ws true 1 []):=by rfl
 have h3:Nat.ble [tx []].length AL.ntmps=true:=rfl
 have h4:AL.prim=none:=rfl
 simp only [h4,h3,h1,h2]
theorem MS (x:List Nat) (L:List (List Nat)) (hL:(x::L).length < 2^38) (s:St) :
    (lim Ay).call Ab [tx (x::L)] s=some (.sl 1 ((x::L).map .s) (.tok s.nt 0),{ s.newTok (x::L).length (some 9) with lo:=min s.lo s.nb }):=by
 have h1:wkZ AL.cin [tx (x::L)]=[tx (x::L)]:=by
  have:=(XR (x::L)).wk
  simp only [AL,wkZ,this]
 obtain ⟨r,s',hc,rfl,rfl⟩:=fn_K (t:=2) (s:=s) (args:=[tx (x::L)]) (Post:=fun r s'=>r=.sl 1 ((x::L).map .s) (.tok s.nt 0)∧s'={ s.newTok (x::L).length (some 9) with lo:=min s.lo s.nb }) DT rfl rfl rfl (by rw [h1]; rfl) (by
  rw [h1]
  have heq:eqS (tx (x::L)) .nsl=some false:=rfl
  have ha:appA s.enter 1 9 (.sl 1 [] .full) (tx (x::L))=some (.sl 1 ((x::L).map .s) (.tok s.nt 0),s.enter.newTok (x::L).length (some 9)):=by
   simp only [tx,List.map_cons,appA,elems,if_true,List.nil_append,List.length_nil,Nat.zero_add,true_and]
   rw [if_pos (by simpa using hL)]
   simp [St.enter]
  have hal:Ag 1 []=true:=rfl
  simp only [AL,go_sem,Ah,AH,AJ,AK,Ae,KB_n,KB_x,Nat.reduceBEq,Nat.reduceAdd,Nat.reduceLT,Nat.reduceLeDiff,Nat.reduceEqDiff,reduceIte,Int.reduceEq,reduceCtorEq,heq,hal,le11s,ha,KK_n,KK_r]
  rfl)
 exact hc
theorem UQ {s0 s:St} {n:En} {R:List RA} {B:List (Nat×Box)} (H:Hp s0 s n R B) (L:List (List Nat)) (hL:L.length < 2^38) :
    ∃ r s',(lim Ay).call Ab [tx L] s=some (r,s')∧Hp s0 s' n (⟨1,9,r,L.map .s,true⟩::R) B∧s'.nb=s.nb:=by
 have hlo:=H.lo
 have h1:=H.over.lo
 have h2:=H.over.nb
 cases L with
 | nil =>
   refine ⟨_,_,NI s,?_,rfl⟩
   exact (H.setLo (m:=min s.lo s.nb) (by omega) (by omega)).addFull 1 9 true .ws
 | cons x L =>
   refine ⟨_,_,MS x L hL s,?_,rfl⟩
   have:=H.newTok 1 9 ((x::L).map .s)
   rw [List.length_map] at this
   exact this.setLo (m:=min s.lo s.nb) (by omega) (by omega)
theorem MT (s:St):(lim Ay).call A2 [zx []] s=some (.ws true 1 [],{ s with lo:=min s.lo s.nb }):=by
 rw [FA]
 unfold F5
 rw [ER]
 have h1:wkZ AP.cin [zx []]=[.ws false 1 []]:=by
  simp [AP,wkZ,wk,wkM,zx]
 have h2:both AP [.ws false 1 []]=some (.ws true 1 []):=by rfl
 have h3:Nat.ble [zx []].length AP.ntmps=true:=rfl
 have h4:AP.prim=none:=rfl
 simp only [h4,h3,h1,h2]
theorem KU (x:Int) (L:List Int) (hL:(x::L).length < 2^38) (s:St) :
    (lim Ay).call A2 [zx (x::L)] s=some (.sl 1 ((x::L).map iv) (.tok s.nt 0),{ s.newTok (x::L).length (some 3) with lo:=min s.lo s.nb }):=by
 have h1:wkZ AP.cin [zx (x::L)]=[zx (x::L)]:=by
  simp only [AP,wkZ,zx,wk]
 obtain ⟨r,s',hc,rfl,rfl⟩:=fn_K (t:=2) (s:=s) (args:=[zx (x::L)]) (Post:=fun r s'=>r=.sl 1 ((x::L).map iv) (.tok s.nt 0)∧s'={ s.newTok (x::L).length (some 3) with lo:=min s.lo s.nb }) ER rfl rfl rfl (by rw [h1]; rfl) (by
  rw [h1]
  have heq:eqS (zx (x::L)) .nsl=some false:=rfl
  have ha:appA s.enter 1 3 (.sl 1 [] .full) (zx (x::L))=some (.sl 1 ((x::L).map iv) (.tok s.nt 0),s.enter.newTok (x::L).length (some 3)):=by
   simp only [zx,List.map_cons,appA,elems,if_true,List.nil_append,List.length_nil,Nat.zero_add,true_and]
   rw [if_pos (by simpa using hL)]
   simp [St.enter]
  have hal:Ag 1 []=true:=rfl
  simp only [AP,go_sem,Ah,AH,AJ,AK,Ae,KB_n,KB_x,Nat.reduceBEq,Nat.reduceAdd,Nat.reduceLT,Nat.reduceLeDiff,Nat.reduceEqDiff,reduceIte,Int.reduceEq,reduceCtorEq,heq,hal,le11s,ha,KK_n,KK_r]
  rfl)
 exact hc
theorem SD {s0 s:St} {n:En} {R:List RA} {B:List (Nat×Box)} (H:Hp s0 s n R B) (L:List Int) (hL:L.length < 2^38) :
    ∃ r s',(lim Ay).call A2 [zx L] s=some (r,s')∧Hp s0 s' n (⟨1,3,r,L.map iv,true⟩::R) B∧s'.nb=s.nb:=by
 have hlo:=H.lo
 have h1:=H.over.lo
 have h2:=H.over.nb
 cases L with
 | nil =>
   refine ⟨_,_,MT s,?_,rfl⟩
   exact (H.setLo (m:=min s.lo s.nb) (by omega) (by omega)).addFull 1 3 true .ws
 | cons x L =>
   refine ⟨_,_,KU x L hL s,?_,rfl⟩
   have:=H.newTok 1 3 ((x::L).map iv)
   rw [List.length_map] at this
   exact this.setLo (m:=min s.lo s.nb) (by omega) (by omega)

attribute [local irreducible] W WO WE WQ WD Tr.get Tr.set
theorem SE {s0 s:St} {n:En} {R:List RA} {B:List (Nat×Box)} (H:Hp s0 s n R B) (l:List FT) (hne:l≠[]) (hl:l.length < 2^34) :
    ∃ r s',(lim Ay).call Af [fx l] s=some (r,s')∧Hp s0 s' n (⟨6,60,r,l.map FT.av,true⟩::R) B∧s'.nb=s.nb∧Av r≠none:=by
 have hlo:=H.lo
 have g1:=H.over.lo
 have g2:=H.over.nb
 have h1:wkZ AM.cin [fx l]=[fx l]:=by simp only [AM,wkZ,fx,wk]
 obtain ⟨r,s',hc,rfl,rfl⟩:=fn_K (t:=2) (s:=s) (args:=[fx l]) (Post:=fun r s'=>r=.sl 6 (l.map FT.av) (.tok s.nt 0)∧s'={ s.newTok l.length (some 60) with lo:=min s.lo s.nb }) ES rfl rfl rfl (by
     rw [h1]
     cases l with
     | nil=>exact absurd rfl hne
     | cons f t=>rfl) (by
  rw [h1]
  have heq:eqS (fx l) .nsl=some false:=by
   cases l with
   | nil=>exact absurd rfl hne
   | cons f t=>rfl
  have ha:appA s.enter 6 60 (.sl 6 [] .full) (fx l)=some (.sl 6 (l.map FT.av) (.tok s.nt 0),s.enter.newTok l.length (some 60)):=by
   cases l with
   | nil=>exact absurd rfl hne
   | cons f t =>
     simp only [fx,List.map_cons,appA,elems,if_true,List.nil_append,List.length_nil,Nat.zero_add,true_and]
     rw [if_pos (by simp at hl ⊢; omega)]
     simp [St.enter]
  have hal:Ag 6 []=true:=rfl
  simp only [AM,go_sem,AE,AA,AC,AB,KB_n,KB_x,Nat.reduceBEq,Nat.reduceAdd,Nat.reduceLT,Nat.reduceLeDiff,Nat.reduceEqDiff,reduceIte,Int.reduceEq,reduceCtorEq,heq,hal,ha,KK_n,KK_r]
  rfl)
 refine ⟨_,_,hc,?_,rfl,by simp [Av]⟩
 have:=H.newTok 6 60 (l.map FT.av)
 rw [List.length_map] at this
 exact this.setLo (m:=min s.lo s.nb) (by omega) (by omega)
end Go.Proofs.Ytgloinighjdhlaa

namespace Go.Proofs.Ytgloinighjdhlaa
open Go.Proofs.Ytgloinighjdhlaa.Am
def cb (T:Nat) (a:AV) (xs:List AV):List (Nat×Box):=match a with
 | .bl id _ _ _ _=>[(id,.row T xs false 0)]
 | _=>[]
def okC (a:AV) (xs:List AV):Prop:=(∃ id,a=.bl id 1 0 xs.length (xs.length,false))∨(a=.ws true 1 []∧xs=[])
def bx1 (p:KQ):List (Nat×Box):=cb 9 p.nm (p.f.names.map .s)++cb 3 p.a (p.f.kids.map iv)
def bxs (K:List KQ):List (Nat×Box):=K.flatMap bx1
def KBk (K:List KQ):Prop:=∀ p∈K,okC p.nm (p.f.names.map .s)∧okC p.a (p.f.kids.map iv)
theorem YX {T:Nat} {a:AV} {xs ys:List AV} (h:DD 1 a ys):cb T a xs=[]:=by
 rcases h with ⟨rfl,_⟩ | ⟨rfl,_⟩ | rfl | rfl | rfl | rfl<;>rfl
theorem RU {a:AV} {xs:List AV} (h:okC a xs) (l:List AV):ones (a::l)=ones l:=by
 rcases h with ⟨id,rfl⟩ | ⟨rfl,rfl⟩
 · rfl
 · rfl
theorem PI {a:AV} {xs:List AV} (h:okC a xs):a.cells=[a]∧ones [a]=true:=by
 rcases h with ⟨id,rfl⟩ | ⟨rfl,rfl⟩
 · exact ⟨rfl,rfl⟩
 · exact ⟨rfl,rfl⟩
theorem KBk.cells {K:List KQ} (h:KBk K):∀ x∈K.map KQ.av,x.cells.length=6∧ones x.cells=true:=by
 intro x hx
 obtain ⟨p,hp,rfl⟩:=List.mem_map.1 hx
 obtain ⟨h1,h2⟩:=h p hp
 refine ⟨rfl,?_⟩
 show ones (AV.b p.f.known::AV.i .u8 (p.f.kind:Nat)::p.nm::p.a::[.i .i64 p.f.rest,.i .i64 p.f.beside])=true
 simp only [ones,RU h1,RU h2]
theorem KBk.set {K:List KQ} (h:KBk K) {i:Nat} {p:KQ} (hp:okC p.nm (p.f.names.map .s)∧okC p.a (p.f.kids.map iv)):KBk (K.set i p):=fun q hq=>by
 rcases List.mem_or_eq_of_mem_set hq with hq | rfl
 · exact h q hq
 · exact hp
theorem WA (l:List FT):bxs (l.map Mw)=[]:=by
 induction l with
 | nil=>rfl
 | cons f l ih =>
   show bx1 (Mw f)++bxs (l.map Mw)=[]
   rw [ih]; rfl
theorem WB {α β:Type} {φ:α→List β} {K:List α} {i:Nat} {p:α} (h:K[i]? = some p):(K.flatMap φ).Perm (φ p++(K.eraseIdx i).flatMap φ):=by
 induction K generalizing i with
 | nil=>simp at h
 | cons q K ih =>
   cases i with
   | zero =>
     simp only [List.getElem?_cons_zero,Option.some.injEq] at h
     subst h
     exact .refl _
   | succ i =>
     have:=ih (i:=i) (by simpa using h)
     show (φ q++K.flatMap φ).Perm (φ p++(φ q++(K.eraseIdx i).flatMap φ))
     refine (List.Perm.append_left _ this).trans ?_
     rw [← List.append_assoc,← List.append_assoc]
     exact List.Perm.append_right _ List.perm_append_comm
theorem UN {α β:Type} {φ:α→List β} {K:List α} {i:Nat} {p g:α} (h:K[i]? = some p):((K.set i g).flatMap φ).Perm (φ g++(K.eraseIdx i).flatMap φ):=by
 have h1:(K.set i g)[i]? = some g:=by
  rw [List.getElem?_set,if_pos rfl,if_pos (List.getElem?_eq_some_iff.1 h).1]
 have:=WB (φ:=φ) h1
 rwa [List.eraseIdx_set_eq] at this
section
variable {s0 s:St} {n:En} {R:List RA} {B:List (Nat×Box)}
theorem UO {T:Nat} {r:AV} {xs:List AV} (hx:CU xs=xs) (hF:Av r=none→r=.ws true 1 []∧xs=[]) (H:Hp s0 s n (⟨1,T,r,xs,true⟩::R) B):∃ a s',Rk true s r=some (a,s')∧Hp s0 s' n R (B++cb T a xs)∧okC a xs:=by
 cases hr:Av r with
 | none =>
   obtain ⟨rfl,rfl⟩:=hF hr
   refine ⟨_,s,rfl,?_,.inr ⟨rfl,rfl⟩⟩
   rw [YX (ys:=[]) .ws,List.append_nil]
   exact H.dropR
 | some k =>
   obtain ⟨s',d,H',_⟩:=H.thaw 0 rfl (by show Av r≠none; rw [hr]; simp) (List.range' 1 R.length) List.nodup_range' (by simp)
   rw [LC,hx] at H'
   rw [Nat.mul_one] at d
   refine ⟨_,s',d,H'.perm (.refl _) ?_,.inl ⟨_,rfl⟩⟩
   exact (List.perm_append_singleton _ _).symm
theorem WC (H:Hp s0 s n R B) (L:List (List Nat)) (hL:L.length < 2^38) :
    ∃ r s1 a s',(lim Ay).call Ab [tx L] s=some (r,s1)∧Rk true s1 r=some (a,s')∧Hp s0 s' n R (B++cb 9 a (L.map .s))∧okC a (L.map .s):=by
 obtain ⟨r,s1,h1,H1,_⟩:=UQ H L hL
 obtain ⟨a,s',h2,H2,ok⟩:=UO (Su L) (fun hr=>by
  cases L with
  | nil=>rw [NI] at h1; cases h1; exact ⟨rfl,rfl⟩
  | cons x L=>rw [MS x L hL] at h1; cases h1; cases hr) H1
 exact ⟨r,s1,a,s',h1,h2,H2,ok⟩
theorem UP (H:Hp s0 s n R B) (L:List Int) (hL:L.length < 2^38) :
    ∃ r s1 a s',(lim Ay).call A2 [zx L] s=some (r,s1)∧Rk true s1 r=some (a,s')∧Hp s0 s' n R (B++cb 3 a (L.map iv))∧okC a (L.map iv):=by
 obtain ⟨r,s1,h1,H1,_⟩:=SD H L hL
 obtain ⟨a,s',h2,H2,ok⟩:=UO (Ph L) (fun hr=>by
  cases L with
  | nil=>rw [MT] at h1; cases h1; exact ⟨rfl,rfl⟩
  | cons x L=>rw [KU x L hL] at h1; cases h1; cases hr) H1
 exact ⟨r,s1,a,s',h1,h2,H2,ok⟩
end
end Go.Proofs.Ytgloinighjdhlaa
