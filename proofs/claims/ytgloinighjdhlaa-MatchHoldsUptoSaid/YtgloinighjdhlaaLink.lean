/-
  The abstract machine's functions are the dump's. By program.
-/
import Derived.Test.YtgloinighjdhlaaRows
import Derived.Test.YtgloinighjdhlaaAmKeep
import Derived.Test.YtgloinighjdhlaaFns
import Derived.Test.YtgloinighjdhlaaPrims
set_option linter.all false
set_option linter.unusedVariables false
set_option linter.unusedSimpArgs false
set_option linter.unusedSectionVars false
set_option maxRecDepth 100000
namespace Go.Proofs.Ytgloinighjdhlaa
open Go.Proofs.Ytgloinighjdhlaa.Am Go.Proofs
def gt : Nat → Option (List AV)
 | _ => none
theorem Ez : compF Try.prog gt false false [] Try.f5 = some Aa := by kernel_rfl
theorem Gz : compF Try.prog gt false false [1000005000, 1000007000, 1000009000] Try.f16 = some BO := by kernel_rfl
theorem F6 : compF Try.prog gt false false [] Try.f17 = some AX := by kernel_rfl
theorem Mr : compF Try.prog gt false false [1000006000, 1000008000] Try.f18 = some Ck := by kernel_rfl
theorem Gb : compF Try.prog gt false false [] Try.f19 = some A5 := by kernel_rfl
theorem Qi : compF Try.prog gt false false [] Try.f20 = some C1 := by kernel_rfl
theorem Ht : compF Try.prog gt false false [] Try.f21 = some Ag := by kernel_rfl
theorem G0 : compF Try.prog gt false false [] Try.f22 = some BP := by kernel_rfl
theorem Ms : compF Try.prog gt false false [] Try.f23 = some Da := by kernel_rfl
theorem Gc : compF Try.prog gt false false [] Try.f24 = some BJ := by kernel_rfl
theorem HV : compF Try.prog gt false false [] Try.f27 = some Ao := by kernel_rfl
theorem So : compF Try.prog gt false false [1000014003] Try.f28 = some Ee := by kernel_rfl
theorem Oy : compF Try.prog gt false false [] Try.f36 = some Cq := by kernel_rfl
theorem N6 : compF Try.prog gt false false [] Try.f37 = some DV := by kernel_rfl
theorem LG : compF Try.prog gt false false [] Try.f38 = some B2 := by kernel_rfl
theorem HW : compF Try.prog gt false false [1000009000] Try.f39 = some Az := by kernel_rfl
theorem Gd : compF Try.prog gt false false [] Try.f40 = some AO := by kernel_rfl
theorem G1 : compF Try.prog gt false false [] Try.f41 = some BB := by kernel_rfl
theorem G3 : compF Try.prog gt false false [] Try.f47 = some AN := by kernel_rfl
theorem Ge : compF Try.prog gt false false [] Try.f48 = some BK := by kernel_rfl
theorem G4 : compF Try.prog gt false false [] Try.f49 = some BQ := by kernel_rfl
theorem Sp : compF Try.prog gt false false [] Try.f50 = some FH := by kernel_rfl
theorem Sq : compF Try.prog gt false false [] Try.f51 = some C2 := by kernel_rfl
theorem El : compF Try.prog gt false false [] Try.f52 = some Ak := by kernel_rfl
theorem Oz : compF Try.prog gt false false [] Try.f53 = some GR := by kernel_rfl
theorem N7 : compF Try.prog gt false false [] Try.f66 = some Ar := by kernel_rfl
theorem Mt : compF Try.prog gt false false [] Try.f67 = some Db := by kernel_rfl
theorem Mu : compF Try.prog gt false false [] Try.f68 = some Dc := by kernel_rfl
theorem O0 : compF Try.prog gt false false [] Try.f69 = some Bf := by kernel_rfl
theorem Qj : compF Try.prog gt false false [] Try.f70 = some E7 := by kernel_rfl
theorem Mv : compF Try.prog gt false false [] Try.f71 = some Dd := by kernel_rfl
theorem Dt : compF Try.prog gt false false [] Try.f72 = some Ab := by kernel_rfl
theorem Jh : compF Try.prog gt false false [] Try.f73 = some CN := by kernel_rfl
theorem Ji : compF Try.prog gt false false [] Try.f74 = some CO := by kernel_rfl
theorem HX : compF Try.prog gt false false [] Try.f75 = some BG := by kernel_rfl
theorem HY : compF Try.prog gt false false [] Try.f76 = some AY := by kernel_rfl
theorem Gf : compF Try.prog gt false false [1000006000, 1000008000] Try.f77 = some BL := by kernel_rfl
theorem Gg : compF Try.prog gt false false [] Try.f78 = some BM := by kernel_rfl
theorem Gh : compF Try.prog gt false false [] Try.f79 = some Ai := by kernel_rfl
theorem Hu : compF Try.prog gt false false [] Try.f80 = some Bj := by kernel_rfl
theorem E0 : compF Try.prog gt true false [] Try.f81 = some AQ := by kernel_rfl
theorem G5 : compF Try.prog gt false false [] Try.f82 = some Cc := by kernel_rfl
theorem G6 : compF Try.prog gt false false [] Try.f83 = some Au := by kernel_rfl
theorem O2 : compF Try.prog gt false false [] Try.f84 = some DW := by kernel_rfl
theorem FV : compF Try.prog gt false false [] Try.f85 = some A1 := by kernel_rfl
theorem IS : compF Try.prog gt false false [] Try.f96 = some DB := by kernel_rfl
theorem O3 : compF Try.prog gt false false [] Try.f97 = some ES := by kernel_rfl
theorem N8 : compF Try.prog gt false false [] Try.f98 = some Dy := by kernel_rfl
theorem O4 : compF Try.prog gt false false [] Try.f99 = some ET := by kernel_rfl
theorem IT : compF Try.prog gt false false [1000002003] Try.f100 = some BZ := by kernel_rfl
theorem Gi : compF Try.prog gt false false [] Try.f101 = some BN := by kernel_rfl
theorem LH : compF Try.prog gt false false [] Try.f102 = some CV := by kernel_rfl
theorem Du : compF Try.prog gt false false [] Try.f103 = some A6 := by kernel_rfl
theorem Fj : compF Try.prog gt false false [] Try.f104 = some A8 := by kernel_rfl
theorem ED : compF Try.prog gt false false [] Try.f105 = some Ah := by kernel_rfl
theorem G7 : compF Try.prog gt false false [] Try.f106 = some BR := by kernel_rfl
theorem G8 : compF Try.prog gt false false [] Try.f107 = some BS := by kernel_rfl
theorem HZ : compF Try.prog gt false false [] Try.f108 = some Cl := by kernel_rfl
theorem EE : compF Try.prog gt false false [] Try.f111 = some BD := by kernel_rfl
theorem Mw : compF Try.prog gt false false [5000000006] Try.f112 = some BX := by kernel_rfl
theorem Hv : compF Try.prog gt true false [] Try.f113 = some Cs := by kernel_rfl
theorem Fk : compF Try.prog gt false false [] Try.f115 = some A9 := by kernel_rfl
theorem Jj : compF Try.prog gt false false [] Try.f116 = some De := by kernel_rfl
theorem Ha : compF Try.prog gt false false [] Try.f117 = some Cm := by kernel_rfl
theorem G9 : compF Try.prog gt false false [] Try.f118 = some BT := by kernel_rfl
theorem JA : compF Try.prog gt false false [] Try.f119 = some Bg := by kernel_rfl
theorem FW : compF Try.prog gt true true [] Try.f122 = some Af := by kernel_rfl
theorem JB : compF Try.prog gt false false [] Try.f125 = some DN := by kernel_rfl
theorem IU : compF Try.prog gt false false [] Try.f126 = some A7 := by kernel_rfl
theorem FO : compF Try.prog gt false false [] Try.f127 = some Bh := by kernel_rfl
theorem HA : compF Try.prog gt false false [] Try.f128 = some BU := by kernel_rfl
theorem FP : compF Try.prog gt false false [] Try.f129 = some Bi := by kernel_rfl
theorem F7 : compF Try.prog gt false false [] Try.f141 = some B7 := by kernel_rfl
theorem FX : compF Try.prog gt false false [] Try.f142 = some Cf := by kernel_rfl
theorem tab_ok : tab.All (VJ Try.prog gt) :=
 ⟨.inl ⟨rfl, Try.f78, [], false, Try.func78, Gg⟩, ⟨.inl ⟨rfl, Try.f47, [], false, Try.func47, G3⟩, ⟨.inl ⟨rfl, Try.f24, [], false, Try.func24, Gc⟩, ⟨.inl ⟨rfl, Try.f19, [], false, Try.func19, Gb⟩, ⟨.inl ⟨rfl, Try.f17, [], false, Try.func17, F6⟩, ⟨.inl ⟨rfl, Try.f16, [1000005000, 1000007000, 1000009000], false, Try.func16, Gz⟩, ⟨.inl ⟨rfl, Try.f5, [], false, Try.func5, Ez⟩, trivial, trivial⟩, trivial⟩, ⟨.inl ⟨rfl, Try.f18, [1000006000, 1000008000], false, Try.func18, Mr⟩, trivial, trivial⟩⟩, ⟨.inl ⟨rfl, Try.f22, [], false, Try.func22, G0⟩, ⟨.inl ⟨rfl, Try.f21, [], false, Try.func21, Ht⟩, ⟨.inl ⟨rfl, Try.f20, [], false, Try.func20, Qi⟩, trivial, trivial⟩, trivial⟩, ⟨.inl ⟨rfl, Try.f23, [], false, Try.func23, Ms⟩, trivial, trivial⟩⟩⟩, ⟨.inl ⟨rfl, Try.f38, [], false, Try.func38, LG⟩, ⟨.inl ⟨rfl, Try.f36, [], false, Try.func36, Oy⟩, ⟨.inl ⟨rfl, Try.f28, [1000014003], false, Try.func28, So⟩, ⟨.inl ⟨rfl, Try.f27, [], false, Try.func27, HV⟩, trivial, trivial⟩, trivial⟩, ⟨.inl ⟨rfl, Try.f37, [], false, Try.func37, N6⟩, trivial, trivial⟩⟩, ⟨.inl ⟨rfl, Try.f40, [], false, Try.func40, Gd⟩, ⟨.inl ⟨rfl, Try.f39, [1000009000], false, Try.func39, HW⟩, trivial, trivial⟩, ⟨.inl ⟨rfl, Try.f41, [], false, Try.func41, G1⟩, trivial, trivial⟩⟩⟩⟩, ⟨.inl ⟨rfl, Try.f69, [], false, Try.func69, O0⟩, ⟨.inl ⟨rfl, Try.f52, [], false, Try.func52, El⟩, ⟨.inl ⟨rfl, Try.f50, [], false, Try.func50, Sp⟩, ⟨.inl ⟨rfl, Try.f49, [], false, Try.func49, G4⟩, ⟨.inl ⟨rfl, Try.f48, [], false, Try.func48, Ge⟩, trivial, trivial⟩, trivial⟩, ⟨.inl ⟨rfl, Try.f51, [], false, Try.func51, Sq⟩, trivial, trivial⟩⟩, ⟨.inl ⟨rfl, Try.f67, [], false, Try.func67, Mt⟩, ⟨.inl ⟨rfl, Try.f66, [], false, Try.func66, N7⟩, ⟨.inl ⟨rfl, Try.f53, [], false, Try.func53, Oz⟩, trivial, trivial⟩, trivial⟩, ⟨.inl ⟨rfl, Try.f68, [], false, Try.func68, Mu⟩, trivial, trivial⟩⟩⟩, ⟨.inl ⟨rfl, Try.f74, [], false, Try.func74, Ji⟩, ⟨.inl ⟨rfl, Try.f72, [], false, Try.func72, Dt⟩, ⟨.inl ⟨rfl, Try.f71, [], false, Try.func71, Mv⟩, ⟨.inl ⟨rfl, Try.f70, [], false, Try.func70, Qj⟩, trivial, trivial⟩, trivial⟩, ⟨.inl ⟨rfl, Try.f73, [], false, Try.func73, Jh⟩, trivial, trivial⟩⟩, ⟨.inl ⟨rfl, Try.f76, [], false, Try.func76, HY⟩, ⟨.inl ⟨rfl, Try.f75, [], false, Try.func75, HX⟩, trivial, trivial⟩, ⟨.inl ⟨rfl, Try.f77, [1000006000, 1000008000], false, Try.func77, Gf⟩, trivial, trivial⟩⟩⟩⟩⟩, ⟨.inl ⟨rfl, Try.f107, [], false, Try.func107, G8⟩, ⟨.inl ⟨rfl, Try.f98, [], false, Try.func98, N8⟩, ⟨.inl ⟨rfl, Try.f83, [], false, Try.func83, G6⟩, ⟨.inl ⟨rfl, Try.f81, [], false, Try.func81, E0⟩, ⟨.inl ⟨rfl, Try.f80, [], false, Try.func80, Hu⟩, ⟨.inl ⟨rfl, Try.f79, [], false, Try.func79, Gh⟩, trivial, trivial⟩, trivial⟩, ⟨.inl ⟨rfl, Try.f82, [], false, Try.func82, G5⟩, trivial, trivial⟩⟩, ⟨.inl ⟨rfl, Try.f96, [], false, Try.func96, IS⟩, ⟨.inl ⟨rfl, Try.f85, [], false, Try.func85, FV⟩, ⟨.inl ⟨rfl, Try.f84, [], false, Try.func84, O2⟩, trivial, trivial⟩, trivial⟩, ⟨.inl ⟨rfl, Try.f97, [], false, Try.func97, O3⟩, trivial, trivial⟩⟩⟩, ⟨.inl ⟨rfl, Try.f103, [], false, Try.func103, Du⟩, ⟨.inl ⟨rfl, Try.f101, [], false, Try.func101, Gi⟩, ⟨.inl ⟨rfl, Try.f100, [1000002003], false, Try.func100, IT⟩, ⟨.inl ⟨rfl, Try.f99, [], false, Try.func99, O4⟩, trivial, trivial⟩, trivial⟩, ⟨.inl ⟨rfl, Try.f102, [], false, Try.func102, LH⟩, trivial, trivial⟩⟩, ⟨.inl ⟨rfl, Try.f105, [], false, Try.func105, ED⟩, ⟨.inl ⟨rfl, Try.f104, [], false, Try.func104, Fj⟩, trivial, trivial⟩, ⟨.inl ⟨rfl, Try.f106, [], false, Try.func106, G7⟩, trivial, trivial⟩⟩⟩⟩, ⟨.inl ⟨rfl, Try.f119, [], false, Try.func119, JA⟩, ⟨.inr ⟨_, rfl, FY⟩, ⟨.inl ⟨rfl, Try.f112, [5000000006], false, Try.func112, Mw⟩, ⟨.inl ⟨rfl, Try.f111, [], false, Try.func111, EE⟩, ⟨.inl ⟨rfl, Try.f108, [], false, Try.func108, HZ⟩, trivial, trivial⟩, trivial⟩, ⟨.inl ⟨rfl, Try.f113, [], false, Try.func113, Hv⟩, trivial, trivial⟩⟩, ⟨.inl ⟨rfl, Try.f117, [], false, Try.func117, Ha⟩, ⟨.inl ⟨rfl, Try.f116, [], false, Try.func116, Jj⟩, ⟨.inl ⟨rfl, Try.f115, [], false, Try.func115, Fk⟩, trivial, trivial⟩, trivial⟩, ⟨.inl ⟨rfl, Try.f118, [], false, Try.func118, G9⟩, trivial, trivial⟩⟩⟩, ⟨.inl ⟨rfl, Try.f128, [], false, Try.func128, HA⟩, ⟨.inl ⟨rfl, Try.f126, [], false, Try.func126, IU⟩, ⟨.inl ⟨rfl, Try.f125, [], false, Try.func125, JB⟩, ⟨.inl ⟨rfl, Try.f122, [], true, Try.func122, FW⟩, trivial, trivial⟩, trivial⟩, ⟨.inl ⟨rfl, Try.f127, [], false, Try.func127, FO⟩, trivial, trivial⟩⟩, ⟨.inl ⟨rfl, Try.f141, [], false, Try.func141, F7⟩, ⟨.inl ⟨rfl, Try.f129, [], false, Try.func129, FP⟩, trivial, trivial⟩, ⟨.inl ⟨rfl, Try.f142, [], false, Try.func142, FX⟩, trivial, trivial⟩⟩⟩⟩⟩⟩
theorem fns_ok : ∀ (f : Nat) (fn : Fun), prog f = some fn → VJ Try.prog gt f fn := fun f fn h => PT.all_get tab_ok h
end Go.Proofs.Ytgloinighjdhlaa
