/-
  What facts, splits and numbers that are handed in read as. (Types' numbers: the seat of r9.)
-/
import Derived.Test.YtgloinighjdhlaaGreatAmDeleg2
import Derived.Test.YtgloinighjdhlaaGreatLOrder
import Derived.Test.YtgloinighjdhlaaGreatProg
import Derived.KernelRfl
set_option linter.all false
set_option linter.unusedVariables false
set_option linter.unusedSimpArgs false
set_option linter.unusedSectionVars false
set_option maxRecDepth 100000
namespace Go.Proofs.YtgloinighjdhlaaGreat
open Go.Proofs.YtgloinighjdhlaaGreat.Am Go.Proofs
theorem Kf:Rx Tryz.prog [3,4,5,9,22,46,34,35,37,48]=true:=by kernel_rfl
theorem rc9:Tryz.prog.cellsOf 9=1:=by kernel_rfl
theorem rc3:Tryz.prog.cellsOf 3=1:=by kernel_rfl
theorem rc48:Tryz.prog.cellsOf 48=6:=by kernel_rfl
theorem ru22:Tryz.prog.underlying 22=some (.slice 48):=by kernel_rfl
theorem ru46:Tryz.prog.underlying 46=some (.slice 3):=by kernel_rfl
theorem ru34:Tryz.prog.underlying 34=some (.slice 9):=by kernel_rfl
theorem ru9:Tryz.prog.underlying 9=some .string:=by kernel_rfl
theorem ru5:Tryz.prog.underlying 5=some (.int .u8):=by kernel_rfl
theorem ru3:Tryz.prog.underlying 3=some (.int .i64):=by kernel_rfl
theorem ru4:Tryz.prog.underlying 4=some .bool:=by kernel_rfl
theorem cZ (a:AV):1≤szV a:=by cases a<;>simp [szV]
theorem ML:∀ L:List (List Nat),szL (L.map AV.s)=(L.map fun l=>1+l.length).sum
 | []=>rfl
 | a::L=>by simp only [List.map_cons,szL,szV,List.sum_cons,ML L]; omega
theorem LQ:∀ L:List AV,L.length≤szL L
 | []=>Nat.le_refl _
 | a::L=>by
   have h1:=cZ a
   have:=LQ L
   simp only [List.length_cons,szL]; omega
theorem XX {a:AV}:∀ {L:List AV},a∈L→szV a≤szL L
 | [],h=>by simp at h
 | b::L,h=>by
   simp only [szL]
   rcases List.mem_cons.1 h with rfl | h
   · omega
   · have:=XX h; omega
theorem Ug {P:Program} {t e:Nat} {l:List AV} (hu:P.underlying t=some (.slice e)) (he:P.underlying e=some (.int .i64)) (hc:P.cellsOf e=1) (h:Typed P t l):∃ L:List Int,l=[zx L]:=by
 obtain ⟨ls,rfl,h1,h2⟩:=Hi hu h
 obtain ⟨L,k1,k2,k3⟩:=Mw (f:=iv) (Q:=fun _=>True) (fun l h=>by
  obtain ⟨x,rfl,hx⟩:=HG he h
  exact ⟨x,Ic (fun fs hh=>by rw [he] at hh; cases hh) _,trivial⟩) ls h2
 exact ⟨L,by rw [hc,k1]; rfl⟩
theorem XY {l:List AV} (h:szV (mkV Tryz.prog 48 l) < 2^30) (ht:Typed Tryz.prog 48 l):∃ f:FT,mkV Tryz.prog 48 l=f.av∧f.Ok∧f.kids.length≤szV (mkV Tryz.prog 48 l):=by
 have hF:=LZ Tryz.underlying48 ht
 rw [Fa Tryz.underlying48] at h ⊢
 obtain ⟨a,r,rfl,h1,hF⟩:=DF hF
 obtain ⟨b,r,rfl,h2,hF⟩:=DF hF
 obtain ⟨c,r,rfl,h3,hF⟩:=DF hF
 obtain ⟨d,r,rfl,h4,hF⟩:=DF hF
 obtain ⟨e,r,rfl,h5,hF⟩:=DF hF
 obtain ⟨f,r,rfl,h6,hF⟩:=DF hF
 obtain rfl:=OQ hF
 obtain ⟨kn,rfl⟩:=OP ru4 h1
 obtain ⟨k,rfl,hk⟩:=HG ru5 h2
 obtain ⟨ns,rfl,hn1,hn2⟩:=OS ru34 ru9 rc9 h3
 obtain ⟨ks,rfl⟩:=Ug ru46 ru3 rc3 h4
 obtain ⟨re,rfl,_⟩:=HG ru3 h5
 obtain ⟨be,rfl,_⟩:=HG ru3 h6
 simp only [Lit.wf,Bool.and_eq_true,decide_eq_true_eq] at hk
 have e1:IntKind.u8.min=0:=rfl
 have e2:IntKind.u8.max=255:=rfl
 rw [e1,e2] at hk
 simp only [List.cons_append,List.nil_append,szV,szL,zx] at h
 have hnl:=LQ (ns.map AV.s)
 have hkl:=LQ (ks.map iv)
 rw [List.length_map] at hnl hkl
 refine ⟨⟨kn,k.toNat,ns,ks,re,be⟩,?_,⟨?_,?_,?_,?_⟩,?_⟩
 · simp only [FT.av,FT.cells,List.cons_append,List.nil_append]
   rw [show ((k.toNat:Nat):Int)=k by omega]
 · simp only; omega
 · intro x hx
   have:=XX (List.mem_map.2 ⟨x,hx,rfl⟩:AV.s x∈ns.map AV.s)
   simp only [szV] at this
   exact ⟨hn2 x hx,by omega⟩
 · simp only; omega
 · simp only; omega
 · simp only [List.cons_append,List.nil_append,szV,szL,zx]; omega
theorem Ol {P:Program} {e:Nat} {α:Type} {f:α→AV} {Q:α→Prop} {w:α→Nat} {N:Nat} (h:∀ l,Typed P e l→szV (mkV P e l) < N→∃ a,mkV P e l=f a∧Q a∧w a≤szV (mkV P e l)):∀ ls:List (List AV),(∀ l∈ls,Typed P e l)→szL (ls.map (mkV P e)) < N→∃ L:List α,ls.map (mkV P e)=L.map f∧L.length=ls.length∧(∀ a∈L,Q a)∧(L.map w).sum≤szL (ls.map (mkV P e))
 | [],_,_=>⟨[],rfl,rfl,by simp,by simp [szL]⟩
 | x::ls,hl,hs=>by
   simp only [List.map_cons,szL] at hs
   obtain ⟨a,h1,h2,h3⟩:=h x (hl x (by simp)) (by omega)
   obtain ⟨L,k1,k2,k3,k4⟩:=Ol h ls (fun l hm=>hl l (by simp [hm])) (by omega)
   refine ⟨a::L,by simp [h1,k1],by simp [k2],fun b hb=>?_,by simp only [List.map_cons,List.sum_cons,szL]; omega⟩
   rcases List.mem_cons.1 hb with rfl | hb
   · exact h2
   · exact k3 b hb
theorem RY:∀ L:List FT,(flatK L).length=(L.map fun f=>f.kids.length).sum
 | []=>rfl
 | f::L=>by
   have:flatK (f::L)=f.kids++flatK L:=by simp [flatK]
   rw [this,List.length_append,RY L]; rfl
theorem Uh {l:List AV} (h:szV (mkV Tryz.prog 22 l) < 2^30) (ht:Typed Tryz.prog 22 l):∃ L:List FT,mkV Tryz.prog 22 l=fx L∧(∀ f∈L,f.Ok)∧L.length < 2^30∧(flatK L).length < 2^30:=by
 obtain ⟨ls,rfl,h1,h2⟩:=Hi ru22 ht
 rw [Ic (fun fs hh=>by rw [ru22] at hh; cases hh)] at h ⊢
 simp only [szV] at h
 obtain ⟨L,k1,k2,k3,k4⟩:=Ol (N:=2^30) (w:=fun f:FT=>f.kids.length) (fun l ht hs=>XY hs ht) ls h2 (by omega)
 have:=LQ (ls.map (mkV Tryz.prog 48))
 rw [List.length_map] at this
 exact ⟨L,by rw [rc48,k1]; rfl,k3,by omega,by rw [RY]; omega⟩
theorem Sh {l:List AV} (h:szV (mkV Tryz.prog 22 l)≤1048576) (ht:Typed Tryz.prog 22 l):∃ L:List FT,mkV Tryz.prog 22 l=fx L∧(∀ f∈L,f.Ok)∧L.length < 2^30∧(flatK L).length < 2^30:=Uh (by omega) ht
theorem Om {l:List AV} (_:szV (mkV Tryz.prog 4 l)≤1048576) (ht:Typed Tryz.prog 4 l):∃ b:Bool,mkV Tryz.prog 4 l=.b b∧True:=by
 obtain ⟨b,rfl⟩:=OP ru4 ht
 exact ⟨b,Ic (fun fs hh=>by rw [ru4] at hh; cases hh) _,trivial⟩
theorem XZ {l:List AV} (_:szV (mkV Tryz.prog 3 l)≤1048576) (ht:Typed Tryz.prog 3 l):∃ n:Int,mkV Tryz.prog 3 l=.i .i64 n∧(Lit.int .i64 n).wf=true:=by
 obtain ⟨n,rfl,h⟩:=HG ru3 ht
 exact ⟨n,Ic (fun fs hh=>by rw [ru3] at hh; cases hh) _,h⟩
end Go.Proofs.YtgloinighjdhlaaGreat
