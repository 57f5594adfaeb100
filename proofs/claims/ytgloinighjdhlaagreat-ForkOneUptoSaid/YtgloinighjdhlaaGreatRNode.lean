/-
  What a node that is handed in reads as. (Types' numbers: the seat of r9.)
-/
import Derived.Test.YtgloinighjdhlaaGreatRFacts
import Derived.Test.YtgloinighjdhlaaGreatLOrder
set_option linter.all false
set_option linter.unusedVariables false
set_option linter.unusedSimpArgs false
set_option linter.unusedSectionVars false
set_option maxRecDepth 100000
namespace Go.Proofs.YtgloinighjdhlaaGreat
open Go.Proofs.YtgloinighjdhlaaGreat.Am Go.Proofs
theorem rc37:Tryz.prog.cellsOf 37=4:=by kernel_rfl
theorem ru35:Tryz.prog.underlying 35=some (.slice 37):=by kernel_rfl
theorem Xa:∀ (m:Nat) {l:List AV},szV (mkV Tryz.prog 37 l)≤m→m < 2^30→Typed Tryz.prog 37 l→∃ n:ND,mkV Tryz.prog 37 l=n.av∧n.Ok∧Lu n≤szV (mkV Tryz.prog 37 l):=by
 intro m
 induction m with
 | zero =>
   intro l h _ ht
   rw [Fa Tryz.underlying37] at h
   simp only [szV] at h; omega
 | succ m ih =>
   intro l h hm ht
   have hF:=LZ Tryz.underlying37 ht
   rw [Fa Tryz.underlying37] at h ⊢
   obtain ⟨a,r,rfl,h1,hF⟩:=DF hF
   obtain ⟨b,r,rfl,h2,hF⟩:=DF hF
   obtain ⟨c,r,rfl,h3,hF⟩:=DF hF
   obtain ⟨d,r,rfl,h4,hF⟩:=DF hF
   obtain rfl:=OQ hF
   obtain ⟨k,rfl,hk⟩:=HG ru5 h1
   obtain ⟨t,rfl,htx⟩:=Qe ru9 h2
   obtain ⟨ns,rfl,hn1,hn2⟩:=OS ru34 ru9 rc9 h3
   obtain ⟨ls,rfl,hl1,hl2⟩:=Hi ru35 h4
   simp only [Lit.wf,Bool.and_eq_true,decide_eq_true_eq] at hk
   have e1:IntKind.u8.min=0:=rfl
   have e2:IntKind.u8.max=255:=rfl
   rw [e1,e2] at hk
   rw [rc37] at h ⊢
   simp only [List.cons_append,List.nil_append,szV,szL,ML] at h
   have key:∀ ls:List (List AV),(∀ l∈ls,Typed Tryz.prog 37 l)→szL (ls.map (mkV Tryz.prog 37))≤m→∃ L:List ND,ls.map (mkV Tryz.prog 37)=L.map ND.av∧L.length=ls.length∧(∀ x∈L,x.Ok)∧(L.map Lu).sum≤szL (ls.map (mkV Tryz.prog 37)):=by
    intro ls
    induction ls with
    | nil=>intro _ _; exact ⟨[],rfl,rfl,by simp,by simp [szL]⟩
    | cons x ls il =>
      intro hx hs
      simp only [List.map_cons,szL] at hs
      obtain ⟨n,n1,n2,n3⟩:=ih (l:=x) (by omega) (by omega) (hx x (by simp))
      obtain ⟨L,k1,k2,k3,k4⟩:=il (fun l hl=>hx l (by simp [hl])) (by omega)
      refine ⟨n::L,by simp [n1,k1],by simp [k2],fun y hy=>?_,by simp only [List.map_cons,List.sum_cons,szL]; omega⟩
      rcases List.mem_cons.1 hy with rfl | hy
      · exact n2
      · exact k3 y hy
   obtain ⟨L,k1,k2,k3,k4⟩:=key ls hl2 (by omega)
   have hnl:=LQ (ns.map AV.s)
   rw [ML,List.length_map] at hnl
   have hll:=LQ (ls.map (mkV Tryz.prog 37))
   rw [List.length_map] at hll
   refine ⟨.mk k.toNat t ns L,?_,.mk (by omega) htx (by omega) hn2 (by omega) (by omega) k3,?_⟩
   · rw [ND.av_eq,k1]
     simp only [ND.cells,ND.kind,ND.text,ND.names,ND.kids,List.cons_append,List.nil_append]
     rw [show ((k.toNat:Nat):Int)=k by omega]
   · rw [Tp]
     simp only [ND.text,ND.names,ND.kids,List.cons_append,List.nil_append,szV,szL,ML]
     omega
theorem Ui {l:List AV} {B:Nat} (hB:B < 2^30) (h:szV (mkV Tryz.prog 37 l)≤B) (ht:Typed Tryz.prog 37 l):∃ n:ND,mkV Tryz.prog 37 l=.agg n.cells∧n.Ok∧Lu n≤B:=by
 obtain ⟨n,h1,h2,h3⟩:=Xa _ (Nat.le_refl _) (by omega) ht
 exact ⟨n,by rw [h1,ND.av_eq],h2,by omega⟩
theorem Uj {l:List AV} (h:szV (mkV Tryz.prog 37 l)≤1048576) (ht:Typed Tryz.prog 37 l):∃ n:ND,mkV Tryz.prog 37 l=.agg n.cells∧n.Ok∧Lu n≤1048576:=Ui (by decide) h ht
end Go.Proofs.YtgloinighjdhlaaGreat
