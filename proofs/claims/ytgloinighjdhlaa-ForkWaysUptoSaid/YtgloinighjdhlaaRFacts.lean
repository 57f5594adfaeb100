/-
  What facts, splits and numbers that are handed in read as. (Types' numbers: the seat of r9.)
-/
import Derived.Test.YtgloinighjdhlaaAmRg
import Derived.Test.YtgloinighjdhlaaLFo1
import Derived.Test.YtgloinighjdhlaaProg
import Derived.KernelRfl
set_option linter.all false
set_option linter.unusedVariables false
set_option linter.unusedSimpArgs false
set_option linter.unusedSectionVars false
set_option maxRecDepth 100000
namespace Go.Proofs.Ytgloinighjdhlaa
open Go.Proofs.Ytgloinighjdhlaa.Am Go.Proofs
theorem Ky:Pw Try.prog [3,4,5,9,22,32,36,37,44,45,47,60]=true:=by kernel_rfl
theorem rc9:Try.prog.cellsOf 9=1:=by kernel_rfl
theorem rc3:Try.prog.cellsOf 3=1:=by kernel_rfl
theorem rc60:Try.prog.cellsOf 60=6:=by kernel_rfl
theorem ru22:Try.prog.underlying 22=some (.slice 60):=by kernel_rfl
theorem ru37:Try.prog.underlying 37=some (.slice 3):=by kernel_rfl
theorem ru44:Try.prog.underlying 44=some (.slice 9):=by kernel_rfl
theorem ru9:Try.prog.underlying 9=some .string:=by kernel_rfl
theorem ru5:Try.prog.underlying 5=some (.int .u8):=by kernel_rfl
theorem ru3:Try.prog.underlying 3=some (.int .i64):=by kernel_rfl
theorem ru4:Try.prog.underlying 4=some .bool:=by kernel_rfl
theorem Yu (a:AV):1≤szV a:=by cases a<;>simp [szV]
theorem OH:∀ L:List AV,L.length≤szL L
 | []=>Nat.le_refl _
 | a::L=>by
   have h1:=Yu a
   have:=OH L
   simp only [List.length_cons,szL]; omega
theorem Uo {a:AV}:∀ {L:List AV},a∈L→szV a≤szL L
 | [],h=>by simp at h
 | b::L,h=>by
   simp only [szL]
   rcases List.mem_cons.1 h with rfl | h
   · omega
   · have:=Uo h; omega
theorem SL {P:Program} {t e:Nat} {l:List AV} (hu:P.underlying t=some (.slice e)) (he:P.underlying e=some (.int .i64)) (hc:P.cellsOf e=1) (h:Typed P t l):∃ L:List Int,l=[zx L]:=by
 obtain ⟨ls,rfl,h1,h2⟩:=Ik hu h
 obtain ⟨L,k1,k2,k3⟩:=Lw (f:=iv) (Q:=fun _=>True) (fun l h=>by
  obtain ⟨x,rfl,hx⟩:=Hd he h
  exact ⟨x,Hc (fun fs hh=>by rw [he] at hh; cases hh) _,trivial⟩) ls h2
 exact ⟨L,by rw [hc,k1]; rfl⟩
theorem Uq {l:List AV} (h:szV (mkV Try.prog 60 l) < 2^30) (ht:Typed Try.prog 60 l):∃ f:FT,mkV Try.prog 60 l=f.av∧f.Ok∧f.kids.length≤szV (mkV Try.prog 60 l):=by
 have hF:=Ox Try.underlying60 ht
 rw [GG Try.underlying60] at h ⊢
 obtain ⟨a,r,rfl,h1,hF⟩:=Eo hF
 obtain ⟨b,r,rfl,h2,hF⟩:=Eo hF
 obtain ⟨c,r,rfl,h3,hF⟩:=Eo hF
 obtain ⟨d,r,rfl,h4,hF⟩:=Eo hF
 obtain ⟨e,r,rfl,h5,hF⟩:=Eo hF
 obtain ⟨f,r,rfl,h6,hF⟩:=Eo hF
 obtain rfl:=R5 hF
 obtain ⟨kn,rfl⟩:=NC ru4 h1
 obtain ⟨k,rfl,hk⟩:=Hd ru5 h2
 obtain ⟨ns,rfl,hn1,hn2⟩:=R6 ru44 ru9 rc9 h3
 obtain ⟨ks,rfl⟩:=SL ru37 ru3 rc3 h4
 obtain ⟨re,rfl,_⟩:=Hd ru3 h5
 obtain ⟨be,rfl,_⟩:=Hd ru3 h6
 simp only [Lit.wf,Bool.and_eq_true,decide_eq_true_eq] at hk
 have e1:IntKind.u8.min=0:=rfl
 have e2:IntKind.u8.max=255:=rfl
 rw [e1,e2] at hk
 simp only [List.cons_append,List.nil_append,szV,szL,zx] at h
 have hnl:=OH (ns.map AV.s)
 have hkl:=OH (ks.map iv)
 rw [List.length_map] at hnl hkl
 refine ⟨⟨kn,k.toNat,ns,ks,re,be⟩,?_,⟨?_,?_,?_,?_⟩,?_⟩
 · simp only [FT.av,FT.cells,List.cons_append,List.nil_append]
   rw [show ((k.toNat:Nat):Int)=k by omega]
 · simp only; omega
 · intro x hx
   have:=Uo (List.mem_map.2 ⟨x,hx,rfl⟩:AV.s x∈ns.map AV.s)
   simp only [szV] at this
   exact ⟨hn2 x hx,by omega⟩
 · simp only; omega
 · simp only; omega
 · simp only [List.cons_append,List.nil_append,szV,szL,zx]; omega
theorem NM {P:Program} {e:Nat} {α:Type} {f:α→AV} {Q:α→Prop} {w:α→Nat} {N:Nat} (h:∀ l,Typed P e l→szV (mkV P e l) < N→∃ a,mkV P e l=f a∧Q a∧w a≤szV (mkV P e l)):∀ ls:List (List AV),(∀ l∈ls,Typed P e l)→szL (ls.map (mkV P e)) < N→∃ L:List α,ls.map (mkV P e)=L.map f∧L.length=ls.length∧(∀ a∈L,Q a)∧(L.map w).sum≤szL (ls.map (mkV P e))
 | [],_,_=>⟨[],rfl,rfl,by simp,by simp [szL]⟩
 | x::ls,hl,hs=>by
   simp only [List.map_cons,szL] at hs
   obtain ⟨a,h1,h2,h3⟩:=h x (hl x (by simp)) (by omega)
   obtain ⟨L,k1,k2,k3,k4⟩:=NM h ls (fun l hm=>hl l (by simp [hm])) (by omega)
   refine ⟨a::L,by simp [h1,k1],by simp [k2],fun b hb=>?_,by simp only [List.map_cons,List.sum_cons,szL]; omega⟩
   rcases List.mem_cons.1 hb with rfl | hb
   · exact h2
   · exact k3 b hb
theorem PX:∀ L:List FT,(flatK L).length=(L.map fun f=>f.kids.length).sum
 | []=>rfl
 | f::L=>by
   have:flatK (f::L)=f.kids++flatK L:=by simp [flatK]
   rw [this,List.length_append,PX L]; rfl
theorem SM {l:List AV} (h:szV (mkV Try.prog 22 l) < 2^30) (ht:Typed Try.prog 22 l):∃ L:List FT,mkV Try.prog 22 l=fx L∧(∀ f∈L,f.Ok)∧L.length < 2^30∧(flatK L).length < 2^30:=by
 obtain ⟨ls,rfl,h1,h2⟩:=Ik ru22 ht
 rw [Hc (fun fs hh=>by rw [ru22] at hh; cases hh)] at h ⊢
 simp only [szV] at h
 obtain ⟨L,k1,k2,k3,k4⟩:=NM (N:=2^30) (w:=fun f:FT=>f.kids.length) (fun l ht hs=>Uq hs ht) ls h2 (by omega)
 have:=OH (ls.map (mkV Try.prog 60))
 rw [List.length_map] at this
 exact ⟨L,by rw [rc60,k1]; rfl,k3,by omega,by rw [PX]; omega⟩
theorem Qb {l:List AV} (h:szV (mkV Try.prog 22 l)≤1048576) (ht:Typed Try.prog 22 l):∃ L:List FT,mkV Try.prog 22 l=fx L∧(∀ f∈L,f.Ok)∧L.length < 2^30∧(flatK L).length < 2^30:=SM (by omega) ht
theorem NN {l:List AV} (_:szV (mkV Try.prog 4 l)≤1048576) (ht:Typed Try.prog 4 l):∃ b:Bool,mkV Try.prog 4 l=.b b∧True:=by
 obtain ⟨b,rfl⟩:=NC ru4 ht
 exact ⟨b,Hc (fun fs hh=>by rw [ru4] at hh; cases hh) _,trivial⟩
theorem Ur {l:List AV} (_:szV (mkV Try.prog 3 l)≤1048576) (ht:Typed Try.prog 3 l):∃ n:Int,mkV Try.prog 3 l=.i .i64 n∧(Lit.int .i64 n).wf=true:=by
 obtain ⟨n,rfl,h⟩:=Hd ru3 ht
 exact ⟨n,Hc (fun fs hh=>by rw [ru3] at hh; cases hh) _,h⟩
end Go.Proofs.Ytgloinighjdhlaa
