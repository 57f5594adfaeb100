/-
  The abstract machine's functions are the dump's. By program.
-/
import Derived.Test.YtgloinighjdhlaaRows
import Derived.Test.YtgloinighjdhlaaAmKeep
import Derived.Test.YtgloinighjdhlaaFns
import Derived.Test.YtgloinighjdhlaaPrims
set_option linter.all false
set_option linter.unusedVariables false
set_option linter.unusedSimpArgs false
set_option linter.unusedSectionVars false
set_option maxRecDepth 100000
namespace Go.Proofs.Ytgloinighjdhlaa
open Go.Proofs.Ytgloinighjdhlaa.Am Go.Proofs
def gt:Nat→Option (List AV)
 | _=>none
theorem E0:compF Try.prog gt false false [1000014012,1000015012,1000018002,1000020012] Try.f6=some AE:=by kernel_rfl
theorem Gu:compF Try.prog gt false false [1000005000,1000007000,1000009000] Try.f16=some BO:=by kernel_rfl
theorem F9:compF Try.prog gt false false [] Try.f17=some AY:=by kernel_rfl
theorem NH:compF Try.prog gt false false [1000006000,1000008000] Try.f18=some Cd:=by kernel_rfl
theorem Gv:compF Try.prog gt false false [] Try.f22=some BE:=by kernel_rfl
theorem NI:compF Try.prog gt false false [] Try.f23=some CB:=by kernel_rfl
theorem Gb:compF Try.prog gt false false [] Try.f25=some Cw:=by kernel_rfl
theorem Pa:compF Try.prog gt false false [2000000003] Try.f26=some Cx:=by kernel_rfl
theorem HQ:compF Try.prog gt false false [] Try.f27=some Aw:=by kernel_rfl
theorem UM:compF Try.prog gt false false [1000014003] Try.f28=some Ec:=by kernel_rfl
theorem Gw:compF Try.prog gt false false [2000000008] Try.f29=some AN:=by kernel_rfl
theorem Pb:compF Try.prog gt false false [] Try.f36=some Cj:=by kernel_rfl
theorem OY:compF Try.prog gt false false [] Try.f37=some DM:=by kernel_rfl
theorem LR:compF Try.prog gt false false [] Try.f38=some Bx:=by kernel_rfl
theorem HR:compF Try.prog gt false false [] Try.f42=some DN:=by kernel_rfl
theorem Gc:compF Try.prog gt false false [] Try.f43=some Cy:=by kernel_rfl
theorem Ra:compF Try.prog gt false false [] Try.f44=some JS:=by kernel_rfl
theorem Gd:compF Try.prog gt false false [] Try.f45=some Cz:=by kernel_rfl
theorem Pc:compF Try.prog gt true true [2000000002,1000009000,6000000010,10] Try.f46=some A3:=by kernel_rfl
theorem Gx:compF Try.prog gt false false [] Try.f47=some AP:=by kernel_rfl
theorem Ge:compF Try.prog gt false false [] Try.f48=some BM:=by kernel_rfl
theorem Gy:compF Try.prog gt false false [] Try.f49=some BP:=by kernel_rfl
theorem UN:compF Try.prog gt false false [] Try.f50=some FL:=by kernel_rfl
theorem UO:compF Try.prog gt false false [] Try.f51=some Cr:=by kernel_rfl
theorem Ej:compF Try.prog gt false false [] Try.f52=some Au:=by kernel_rfl
theorem Pd:compF Try.prog gt false false [] Try.f53=some GX:=by kernel_rfl
theorem OZ:compF Try.prog gt false false [] Try.f66=some Ay:=by kernel_rfl
theorem NJ:compF Try.prog gt false false [] Try.f67=some DV:=by kernel_rfl
theorem NK:compF Try.prog gt false false [] Try.f68=some DW:=by kernel_rfl
theorem Pe:compF Try.prog gt false false [] Try.f69=some Bg:=by kernel_rfl
theorem Rb:compF Try.prog gt false false [] Try.f70=some E7:=by kernel_rfl
theorem NL:compF Try.prog gt false false [] Try.f71=some DX:=by kernel_rfl
theorem Dp:compF Try.prog gt false false [] Try.f72=some Ab:=by kernel_rfl
theorem Jj:compF Try.prog gt false false [] Try.f73=some CI:=by kernel_rfl
theorem Jk:compF Try.prog gt false false [] Try.f74=some CJ:=by kernel_rfl
theorem E1:compF Try.prog gt true false [] Try.f81=some AG:=by kernel_rfl
theorem Gz:compF Try.prog gt false false [] Try.f82=some CW:=by kernel_rfl
theorem G0:compF Try.prog gt false false [] Try.f83=some Az:=by kernel_rfl
theorem Pf:compF Try.prog gt false false [] Try.f84=some DP:=by kernel_rfl
theorem FV:compF Try.prog gt false false [] Try.f85=some A4:=by kernel_rfl
theorem IC:compF Try.prog gt false false [] Try.f96=some C1:=by kernel_rfl
theorem Pg:compF Try.prog gt false false [] Try.f97=some EO:=by kernel_rfl
theorem Oa:compF Try.prog gt false false [] Try.f98=some Dv:=by kernel_rfl
theorem Ph:compF Try.prog gt false false [] Try.f99=some EP:=by kernel_rfl
theorem ID:compF Try.prog gt false false [1000002003] Try.f100=some BV:=by kernel_rfl
theorem Gf:compF Try.prog gt false false [] Try.f101=some BN:=by kernel_rfl
theorem LU:compF Try.prog gt false false [] Try.f102=some CO:=by kernel_rfl
theorem Dq:compF Try.prog gt false false [] Try.f103=some A9:=by kernel_rfl
theorem Fm:compF Try.prog gt false false [] Try.f104=some BB:=by kernel_rfl
theorem D6:compF Try.prog gt false false [] Try.f105=some Ak:=by kernel_rfl
theorem HS:compF Try.prog gt false false [] Try.f108=some Ce:=by kernel_rfl
theorem D7:compF Try.prog gt false false [] Try.f111=some BH:=by kernel_rfl
theorem NM:compF Try.prog gt false false [5000000006] Try.f112=some BU:=by kernel_rfl
theorem Hh:compF Try.prog gt true false [] Try.f113=some Ck:=by kernel_rfl
theorem Fn:compF Try.prog gt false false [] Try.f115=some BC:=by kernel_rfl
theorem Jl:compF Try.prog gt false false [] Try.f116=some DY:=by kernel_rfl
theorem HT:compF Try.prog gt false false [] Try.f117=some Cf:=by kernel_rfl
theorem G1:compF Try.prog gt false false [] Try.f118=some BQ:=by kernel_rfl
theorem I0:compF Try.prog gt false false [] Try.f119=some Bh:=by kernel_rfl
theorem FW:compF Try.prog gt true true [] Try.f122=some Aj:=by kernel_rfl
theorem I3:compF Try.prog gt false false [] Try.f125=some DG:=by kernel_rfl
theorem IE:compF Try.prog gt false false [] Try.f126=some BA:=by kernel_rfl
theorem FP:compF Try.prog gt false false [] Try.f127=some Bi:=by kernel_rfl
theorem G3:compF Try.prog gt false false [] Try.f128=some BR:=by kernel_rfl
theorem FQ:compF Try.prog gt false false [] Try.f129=some Bj:=by kernel_rfl
theorem GA:compF Try.prog gt false false [] Try.f141=some B4:=by kernel_rfl
theorem FX:compF Try.prog gt false false [] Try.f142=some Ca:=by kernel_rfl
theorem tab_ok:tab.All (Sh Try.prog gt) :=
 ⟨.inl ⟨rfl,Try.f74,[],false,Try.func74,Jk⟩,⟨.inl ⟨rfl,Try.f45,[],false,Try.func45,Gd⟩,⟨.inl ⟨rfl,Try.f27,[],false,Try.func27,HQ⟩,⟨.inl ⟨rfl,Try.f22,[],false,Try.func22,Gv⟩,⟨.inl ⟨rfl,Try.f17,[],false,Try.func17,F9⟩,⟨.inl ⟨rfl,Try.f16,[1000005000,1000007000,1000009000],false,Try.func16,Gu⟩,⟨.inl ⟨rfl,Try.f6,[1000014012,1000015012,1000018002,1000020012],false,Try.func6,E0⟩,trivial,trivial⟩,trivial⟩,⟨.inl ⟨rfl,Try.f18,[1000006000,1000008000],false,Try.func18,NH⟩,trivial,trivial⟩⟩,⟨.inl ⟨rfl,Try.f25,[],false,Try.func25,Gb⟩,⟨.inl ⟨rfl,Try.f23,[],false,Try.func23,NI⟩,trivial,trivial⟩,⟨.inl ⟨rfl,Try.f26,[2000000003],false,Try.func26,Pa⟩,trivial,trivial⟩⟩⟩,⟨.inl ⟨rfl,Try.f38,[],false,Try.func38,LR⟩,⟨.inl ⟨rfl,Try.f36,[],false,Try.func36,Pb⟩,⟨.inl ⟨rfl,Try.f29,[2000000008],false,Try.func29,Gw⟩,⟨.inl ⟨rfl,Try.f28,[1000014003],false,Try.func28,UM⟩,trivial,trivial⟩,trivial⟩,⟨.inl ⟨rfl,Try.f37,[],false,Try.func37,OY⟩,trivial,trivial⟩⟩,⟨.inl ⟨rfl,Try.f43,[],false,Try.func43,Gc⟩,⟨.inl ⟨rfl,Try.f42,[],false,Try.func42,HR⟩,trivial,trivial⟩,⟨.inl ⟨rfl,Try.f44,[],false,Try.func44,Ra⟩,trivial,trivial⟩⟩⟩⟩,⟨.inl ⟨rfl,Try.f66,[],false,Try.func66,OZ⟩,⟨.inl ⟨rfl,Try.f50,[],false,Try.func50,UN⟩,⟨.inl ⟨rfl,Try.f48,[],false,Try.func48,Ge⟩,⟨.inl ⟨rfl,Try.f47,[],false,Try.func47,Gx⟩,⟨.inl ⟨rfl,Try.f46,[2000000002,1000009000,6000000010,10],true,Try.func46,Pc⟩,trivial,trivial⟩,trivial⟩,⟨.inl ⟨rfl,Try.f49,[],false,Try.func49,Gy⟩,trivial,trivial⟩⟩,⟨.inl ⟨rfl,Try.f52,[],false,Try.func52,Ej⟩,⟨.inl ⟨rfl,Try.f51,[],false,Try.func51,UO⟩,trivial,trivial⟩,⟨.inl ⟨rfl,Try.f53,[],false,Try.func53,Pd⟩,trivial,trivial⟩⟩⟩,⟨.inl ⟨rfl,Try.f70,[],false,Try.func70,Rb⟩,⟨.inl ⟨rfl,Try.f68,[],false,Try.func68,NK⟩,⟨.inl ⟨rfl,Try.f67,[],false,Try.func67,NJ⟩,trivial,trivial⟩,⟨.inl ⟨rfl,Try.f69,[],false,Try.func69,Pe⟩,trivial,trivial⟩⟩,⟨.inl ⟨rfl,Try.f72,[],false,Try.func72,Dp⟩,⟨.inl ⟨rfl,Try.f71,[],false,Try.func71,NL⟩,trivial,trivial⟩,⟨.inl ⟨rfl,Try.f73,[],false,Try.func73,Jj⟩,trivial,trivial⟩⟩⟩⟩⟩,⟨.inl ⟨rfl,Try.f111,[],false,Try.func111,D7⟩,⟨.inl ⟨rfl,Try.f99,[],false,Try.func99,Ph⟩,⟨.inl ⟨rfl,Try.f85,[],false,Try.func85,FV⟩,⟨.inl ⟨rfl,Try.f83,[],false,Try.func83,G0⟩,⟨.inl ⟨rfl,Try.f82,[],false,Try.func82,Gz⟩,⟨.inl ⟨rfl,Try.f81,[],false,Try.func81,E1⟩,trivial,trivial⟩,trivial⟩,⟨.inl ⟨rfl,Try.f84,[],false,Try.func84,Pf⟩,trivial,trivial⟩⟩,⟨.inl ⟨rfl,Try.f97,[],false,Try.func97,Pg⟩,⟨.inl ⟨rfl,Try.f96,[],false,Try.func96,IC⟩,trivial,trivial⟩,⟨.inl ⟨rfl,Try.f98,[],false,Try.func98,Oa⟩,trivial,trivial⟩⟩⟩,⟨.inl ⟨rfl,Try.f103,[],false,Try.func103,Dq⟩,⟨.inl ⟨rfl,Try.f101,[],false,Try.func101,Gf⟩,⟨.inl ⟨rfl,Try.f100,[1000002003],false,Try.func100,ID⟩,trivial,trivial⟩,⟨.inl ⟨rfl,Try.f102,[],false,Try.func102,LU⟩,trivial,trivial⟩⟩,⟨.inl ⟨rfl,Try.f105,[],false,Try.func105,D6⟩,⟨.inl ⟨rfl,Try.f104,[],false,Try.func104,Fm⟩,trivial,trivial⟩,⟨.inl ⟨rfl,Try.f108,[],false,Try.func108,HS⟩,trivial,trivial⟩⟩⟩⟩,⟨.inl ⟨rfl,Try.f122,[],true,Try.func122,FW⟩,⟨.inl ⟨rfl,Try.f116,[],false,Try.func116,Jl⟩,⟨.inr ⟨_,rfl,FY⟩,⟨.inl ⟨rfl,Try.f113,[],false,Try.func113,Hh⟩,⟨.inl ⟨rfl,Try.f112,[5000000006],false,Try.func112,NM⟩,trivial,trivial⟩,trivial⟩,⟨.inl ⟨rfl,Try.f115,[],false,Try.func115,Fn⟩,trivial,trivial⟩⟩,⟨.inl ⟨rfl,Try.f118,[],false,Try.func118,G1⟩,⟨.inl ⟨rfl,Try.f117,[],false,Try.func117,HT⟩,trivial,trivial⟩,⟨.inl ⟨rfl,Try.f119,[],false,Try.func119,I0⟩,trivial,trivial⟩⟩⟩,⟨.inl ⟨rfl,Try.f128,[],false,Try.func128,G3⟩,⟨.inl ⟨rfl,Try.f126,[],false,Try.func126,IE⟩,⟨.inl ⟨rfl,Try.f125,[],false,Try.func125,I3⟩,trivial,trivial⟩,⟨.inl ⟨rfl,Try.f127,[],false,Try.func127,FP⟩,trivial,trivial⟩⟩,⟨.inl ⟨rfl,Try.f141,[],false,Try.func141,GA⟩,⟨.inl ⟨rfl,Try.f129,[],false,Try.func129,FQ⟩,trivial,trivial⟩,⟨.inl ⟨rfl,Try.f142,[],false,Try.func142,FX⟩,trivial,trivial⟩⟩⟩⟩⟩⟩
theorem MP:∀ (f:Nat) (fn:Fun),prog f=some fn→Sh Try.prog gt f fn:=fun f fn h=>PT.all_get tab_ok h
end Go.Proofs.Ytgloinighjdhlaa
