/-
  The law's call on the abstract machine, cut into pieces. By program.
-/
import Derived.Test.YtgloinighjdhlaaGreatFns
import Derived.Test.YtgloinighjdhlaaGreatAmRg
import Derived.KernelRfl
set_option linter.all false
set_option linter.unusedVariables false
set_option linter.unusedSimpArgs false
set_option linter.unusedSectionVars false
set_option maxRecDepth 100000
namespace Go.Proofs.YtgloinighjdhlaaGreat
open Go.Proofs.YtgloinighjdhlaaGreat.Am
def m0:Ent:=⟨[],⟨0,[],0,[],0⟩,(.b true),⟨0,[],0,[],0⟩⟩
theorem k0:m0.ok progC 7:=ent_ok [] 5000 trivial (by kernel_rfl)
theorem Hc:∃ n s',(run progC n).call 7 [] s0=some (.b true,s'):=law_ev k0
end Go.Proofs.YtgloinighjdhlaaGreat
