/-
  What a node that is handed in reads as. (Types' numbers: the seat of r9.)
-/
import Derived.Test.YtgloinighjdhlaaRFacts
import Derived.Test.YtgloinighjdhlaaLNode7
set_option linter.all false
set_option linter.unusedVariables false
set_option linter.unusedSimpArgs false
set_option linter.unusedSectionVars false
set_option maxRecDepth 100000
namespace Go.Proofs.Ytgloinighjdhlaa
open Go.Proofs.Ytgloinighjdhlaa.Am Go.Proofs
theorem rc47:Try.prog.cellsOf 47=4:=by kernel_rfl
theorem ru45:Try.prog.underlying 45=some (.slice 47):=by kernel_rfl
theorem US:∀ (m:Nat) {l:List AV},szV (mkV Try.prog 47 l)≤m→m < 2^30→Typed Try.prog 47 l→∃ n:ND,mkV Try.prog 47 l=n.av∧n.Ok∧DQ n≤szV (mkV Try.prog 47 l):=by
 intro m
 induction m with
 | zero =>
   intro l h _ ht
   rw [EJ Try.underlying47] at h
   simp only [szV] at h; omega
 | succ m ih =>
   intro l h hm ht
   have hF:=Js Try.underlying47 ht
   rw [EJ Try.underlying47] at h ⊢
   obtain ⟨a,r,rfl,h1,hF⟩:=Cg hF
   obtain ⟨b,r,rfl,h2,hF⟩:=Cg hF
   obtain ⟨c,r,rfl,h3,hF⟩:=Cg hF
   obtain ⟨d,r,rfl,h4,hF⟩:=Cg hF
   obtain rfl:=Lz hF
   obtain ⟨k,rfl,hk⟩:=F3 ru5 h1
   obtain ⟨t,rfl,htx⟩:=Nx ru9 h2
   obtain ⟨ns,rfl,hn1,hn2⟩:=L4 ru44 ru9 rc9 h3
   obtain ⟨ls,rfl,hl1,hl2⟩:=GR ru45 h4
   simp only [Lit.wf,Bool.and_eq_true,decide_eq_true_eq] at hk
   have e1:IntKind.u8.min=0:=rfl
   have e2:IntKind.u8.max=255:=rfl
   rw [e1,e2] at hk
   rw [rc47] at h ⊢
   simp only [List.cons_append,List.nil_append,szV,szL,Kd] at h
   have key:∀ ls:List (List AV),(∀ l∈ls,Typed Try.prog 47 l)→szL (ls.map (mkV Try.prog 47))≤m→∃ L:List ND,ls.map (mkV Try.prog 47)=L.map ND.av∧L.length=ls.length∧(∀ x∈L,x.Ok)∧(L.map DQ).sum≤szL (ls.map (mkV Try.prog 47)):=by
    intro ls
    induction ls with
    | nil=>intro _ _; exact ⟨[],rfl,rfl,by simp,by simp [szL]⟩
    | cons x ls il =>
      intro hx hs
      simp only [List.map_cons,szL] at hs
      obtain ⟨n,n1,n2,n3⟩:=ih (l:=x) (by omega) (by omega) (hx x (by simp))
      obtain ⟨L,k1,k2,k3,k4⟩:=il (fun l hl=>hx l (by simp [hl])) (by omega)
      refine ⟨n::L,by simp [n1,k1],by simp [k2],fun y hy=>?_,by simp only [List.map_cons,List.sum_cons,szL]; omega⟩
      rcases List.mem_cons.1 hy with rfl | hy
      · exact n2
      · exact k3 y hy
   obtain ⟨L,k1,k2,k3,k4⟩:=key ls hl2 (by omega)
   have hnl:=Jm (ns.map AV.s)
   rw [Kd,List.length_map] at hnl
   have hll:=Jm (ls.map (mkV Try.prog 47))
   rw [List.length_map] at hll
   refine ⟨.mk k.toNat t ns L,?_,.mk (by omega) htx (by omega) hn2 (by omega) (by omega) k3,?_⟩
   · rw [ND.av_eq,k1]
     simp only [ND.cells,ND.kind,ND.text,ND.names,ND.kids,List.cons_append,List.nil_append]
     rw [show ((k.toNat:Nat):Int)=k by omega]
   · rw [It]
     simp only [ND.text,ND.names,ND.kids,List.cons_append,List.nil_append,szV,szL,Kd]
     omega
theorem Re {l:List AV} {B:Nat} (hB:B < 2^30) (h:szV (mkV Try.prog 47 l)≤B) (ht:Typed Try.prog 47 l):∃ n:ND,mkV Try.prog 47 l=.agg n.cells∧n.Ok∧DQ n≤B:=by
 obtain ⟨n,h1,h2,h3⟩:=US _ (Nat.le_refl _) (by omega) ht
 exact ⟨n,by rw [h1,ND.av_eq],h2,by omega⟩
theorem MR {l:List AV} (h:szV (mkV Try.prog 47 l)≤1048576) (ht:Typed Try.prog 47 l):∃ n:ND,mkV Try.prog 47 l=.agg n.cells∧n.Ok∧DQ n≤1048576:=Re (by decide) h ht
end Go.Proofs.Ytgloinighjdhlaa
