/-
  The abstract machine's functions are the dump's. By program.
-/
import Derived.Test.YtfpoihibfajhlaaRows
import Derived.Test.YtfpoihibfajhlaaAmKeep
import Derived.Test.YtfpoihibfajhlaaFns
import Derived.Test.YtfpoihibfajhlaaPrims
set_option linter.all false
set_option linter.unusedVariables false
set_option linter.unusedSimpArgs false
set_option linter.unusedSectionVars false
set_option maxRecDepth 100000
namespace Go.Proofs.Ytfpoihibfajhlaa
open Go.Proofs.Ytfpoihibfajhlaa.Am Go.Proofs
def gt:Nat→Option (List AV)
 | _=>none
theorem Du:compF Try.prog gt false false [] Try.f3=some AE:=by kernel_rfl
theorem FF:compF Try.prog gt false false [1000007001] Try.f4=some A9:=by kernel_rfl
theorem FG:compF Try.prog gt true false [7000000001] Try.f5=some Au:=by kernel_rfl
theorem LD:compF Try.prog gt false false [2000000005,1000007009,1000008009] Try.f6=some BL:=by kernel_rfl
theorem F3:compF Try.prog gt false false [5000000005] Try.f7=some AR:=by kernel_rfl
theorem Fi:compF Try.prog gt false false [] Try.f8=some Bl:=by kernel_rfl
theorem Fj:compF Try.prog gt false false [] Try.f9=some Bm:=by kernel_rfl
theorem FH:compF Try.prog gt false false [] Try.f10=some BX:=by kernel_rfl
theorem It:compF Try.prog gt false false [] Try.f11=some BM:=by kernel_rfl
theorem Dv:compF Try.prog gt true false [] Try.f12=some AJ:=by kernel_rfl
theorem Dw:compF Try.prog gt false false [] Try.f15=some AX:=by kernel_rfl
theorem Fk:compF Try.prog gt false false [] Try.f16=some Ac:=by kernel_rfl
theorem F4:compF Try.prog gt false false [] Try.f17=some AF:=by kernel_rfl
theorem FI:compF Try.prog gt false false [] Try.f18=some BZ:=by kernel_rfl
theorem LF:compF Try.prog gt false false [] Try.f19=some Cb:=by kernel_rfl
theorem FJ:compF Try.prog gt false false [] Try.f22=some Ai:=by kernel_rfl
theorem G4:compF Try.prog gt false false [] Try.f23=some CS:=by kernel_rfl
theorem Lr:compF Try.prog gt false false [] Try.f24=some Da:=by kernel_rfl
theorem Fl:compF Try.prog gt false false [] Try.f36=some AZ:=by kernel_rfl
theorem Iu:compF Try.prog gt false false [] Try.f37=some Cy:=by kernel_rfl
theorem J4:compF Try.prog gt false false [] Try.f38=some Cf:=by kernel_rfl
theorem LG:compF Try.prog gt false false [] Try.f39=some Df:=by kernel_rfl
theorem El:compF Try.prog gt false false [] Try.f46=some BO:=by kernel_rfl
theorem FK:compF Try.prog gt false false [] Try.f47=some Ba:=by kernel_rfl
theorem Dx:compF Try.prog gt false false [] Try.f48=some A4:=by kernel_rfl
theorem C6:compF Try.prog gt false false [] Try.f50=some Ao:=by kernel_rfl
theorem EH:compF Try.prog gt false false [] Try.f52=some Bn:=by kernel_rfl
theorem CV:compF Try.prog gt false false [] Try.f53=some Ak:=by kernel_rfl
theorem C4:compF Try.prog gt false false [] Try.f55=some BA:=by kernel_rfl
theorem tab_ok:tab.All (Ql Try.prog gt) :=
 ⟨.inl ⟨rfl,Try.f18,[],false,Try.func18,FI⟩,⟨.inl ⟨rfl,Try.f10,[],false,Try.func10,FH⟩,⟨.inl ⟨rfl,Try.f6,[2000000005,1000007009,1000008009],false,Try.func6,LD⟩,⟨.inl ⟨rfl,Try.f4,[1000007001],false,Try.func4,FF⟩,⟨.inl ⟨rfl,Try.f3,[],false,Try.func3,Du⟩,trivial,trivial⟩,⟨.inl ⟨rfl,Try.f5,[7000000001],false,Try.func5,FG⟩,trivial,trivial⟩⟩,⟨.inl ⟨rfl,Try.f8,[],false,Try.func8,Fi⟩,⟨.inl ⟨rfl,Try.f7,[5000000005],false,Try.func7,F3⟩,trivial,trivial⟩,⟨.inl ⟨rfl,Try.f9,[],false,Try.func9,Fj⟩,trivial,trivial⟩⟩⟩,⟨.inr ⟨_,rfl,Co⟩,⟨.inl ⟨rfl,Try.f12,[],false,Try.func12,Dv⟩,⟨.inl ⟨rfl,Try.f11,[],false,Try.func11,It⟩,trivial,trivial⟩,⟨.inr ⟨_,rfl,C7⟩,trivial,trivial⟩⟩,⟨.inl ⟨rfl,Try.f16,[],false,Try.func16,Fk⟩,⟨.inl ⟨rfl,Try.f15,[],false,Try.func15,Dw⟩,trivial,trivial⟩,⟨.inl ⟨rfl,Try.f17,[],false,Try.func17,F4⟩,trivial,trivial⟩⟩⟩⟩,⟨.inl ⟨rfl,Try.f39,[],false,Try.func39,LG⟩,⟨.inl ⟨rfl,Try.f24,[],false,Try.func24,Lr⟩,⟨.inl ⟨rfl,Try.f22,[],false,Try.func22,FJ⟩,⟨.inl ⟨rfl,Try.f19,[],false,Try.func19,LF⟩,trivial,trivial⟩,⟨.inl ⟨rfl,Try.f23,[],false,Try.func23,G4⟩,trivial,trivial⟩⟩,⟨.inl ⟨rfl,Try.f37,[],false,Try.func37,Iu⟩,⟨.inl ⟨rfl,Try.f36,[],false,Try.func36,Fl⟩,trivial,trivial⟩,⟨.inl ⟨rfl,Try.f38,[],false,Try.func38,J4⟩,trivial,trivial⟩⟩⟩,⟨.inl ⟨rfl,Try.f50,[],false,Try.func50,C6⟩,⟨.inl ⟨rfl,Try.f47,[],false,Try.func47,FK⟩,⟨.inl ⟨rfl,Try.f46,[],false,Try.func46,El⟩,trivial,trivial⟩,⟨.inl ⟨rfl,Try.f48,[],false,Try.func48,Dx⟩,trivial,trivial⟩⟩,⟨.inl ⟨rfl,Try.f53,[],false,Try.func53,CV⟩,⟨.inl ⟨rfl,Try.f52,[],false,Try.func52,EH⟩,trivial,trivial⟩,⟨.inl ⟨rfl,Try.f55,[],false,Try.func55,C4⟩,trivial,trivial⟩⟩⟩⟩⟩
theorem fns_ok:∀ (f:Nat) (fn:Fun),prog f=some fn→Ql Try.prog gt f fn:=fun f fn h=>PT.all_get tab_ok h
end Go.Proofs.Ytfpoihibfajhlaa
