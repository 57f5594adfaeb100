/-
  What variables and texts that are handed in read as. (Types' numbers: the plain seat of r6.)
-/
import Derived.Test.YtfpoihibfajhlaaAmRg
import Derived.Test.YtfpoihibfajhlaaLE8
import Derived.Test.YtfpoihibfajhlaaProg
import Derived.KernelRfl
set_option linter.all false
set_option linter.unusedVariables false
set_option linter.unusedSimpArgs false
set_option linter.unusedSectionVars false
set_option maxRecDepth 100000
namespace Go.Proofs.Ytfpoihibfajhlaa
open Go.Proofs.Ytfpoihibfajhlaa.Am Go.Proofs
theorem J5:Lf Try.prog [3,9,22,24]=true:=by kernel_rfl
theorem rc9:Try.prog.cellsOf 9=1:=by kernel_rfl
theorem M6 {l:List AV} (_:szV (mkV Try.prog 24 l)≤1048576) (h:Typed Try.prog 24 l):∃ x:VV,mkV Try.prog 24 l=x.av∧x.Ok∧∀ l∈x.names,Txt l:=by
 have hF:=Kv Try.underlying24 h
 rw [Eh Try.underlying24]
 obtain ⟨a,r,rfl,h1,hF⟩:=E8 hF
 obtain ⟨b,r,rfl,h2,hF⟩:=E8 hF
 obtain ⟨c,r,rfl,h3,hF⟩:=E8 hF
 obtain ⟨d,r,rfl,h4,hF⟩:=E8 hF
 obtain rfl:=Mz hF
 obtain ⟨A,rfl,a1,a2⟩:=HQ Try.underlying22 Try.underlying9 rc9 h1
 obtain ⟨B,rfl,b1,b2⟩:=HQ Try.underlying22 Try.underlying9 rc9 h2
 obtain ⟨C,rfl,c1,c2⟩:=HQ Try.underlying22 Try.underlying9 rc9 h3
 obtain ⟨n,rfl,hn⟩:=N7 Try.underlying3 h4
 simp only [Lit.wf,Bool.and_eq_true,decide_eq_true_eq] at hn
 have e1:IntKind.i64.min = -9223372036854775808:=rfl
 have e2:IntKind.i64.max=9223372036854775807:=rfl
 exact ⟨⟨A,B,C,n⟩,rfl,⟨a1,b1,c1,by have:=hn.1; simp only; omega,by have:=hn.2; simp only; omega⟩,a2⟩
theorem JN {l:List AV} (h0:szV (mkV Try.prog 9 l)≤1048576) (h:Typed Try.prog 9 l):∃ t:List Nat,mkV Try.prog 9 l=.s t∧Txt t∧t.length < 2^30:=by
 obtain ⟨t,rfl,ht⟩:=Ku Try.underlying9 h
 have e:mkV Try.prog 9 [.s t]=.s t:=Ie (fun fs hh=>by rw [Try.underlying9] at hh; cases hh) _
 refine ⟨t,e,ht,?_⟩
 rw [e] at h0
 simp only [szV] at h0
 omega
end Go.Proofs.Ytfpoihibfajhlaa
