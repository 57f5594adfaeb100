/-
  The abstract machine's functions are the dump's. By program.
-/
import Derived.Test.YtbfgoopcnkeblaaGreatRows
import Derived.Test.YtbfgoopcnkeblaaGreatAmKeep
import Derived.Test.YtbfgoopcnkeblaaGreatFns
import Derived.Test.YtbfgoopcnkeblaaGreatPrims
set_option linter.all false
set_option linter.unusedVariables false
set_option linter.unusedSimpArgs false
set_option linter.unusedSectionVars false
set_option maxRecDepth 100000
namespace Go.Proofs.YtbfgoopcnkeblaaGreat
open Go.Proofs.YtbfgoopcnkeblaaGreat.Am Go.Proofs
def gt : Nat → Option (List AV)
 | _ => none
theorem Ee : compF Tryz.prog gt false false [] Tryz.f4 = some Ad := by kernel_rfl
theorem LK : compF Tryz.prog gt false false [] Tryz.f11 = some CB := by kernel_rfl
theorem MX : compF Tryz.prog gt false false [] Tryz.f12 = some CZ := by kernel_rfl
theorem E8 : compF Tryz.prog gt false false [] Tryz.f13 = some A8 := by kernel_rfl
theorem GX : compF Tryz.prog gt false false [] Tryz.f14 = some BP := by kernel_rfl
theorem Ff : compF Tryz.prog gt false false [] Tryz.f15 = some AW := by kernel_rfl
theorem GB : compF Tryz.prog gt false false [] Tryz.f16 = some Aa := by kernel_rfl
theorem GC : compF Tryz.prog gt false false [] Tryz.f17 = some Av := by kernel_rfl
theorem GY : compF Tryz.prog gt false false [] Tryz.f18 = some Ay := by kernel_rfl
theorem P7 : compF Tryz.prog gt false false [] Tryz.f21 = some HS := by kernel_rfl
theorem R2 : compF Tryz.prog gt false false [] Tryz.f22 = some EO := by kernel_rfl
theorem OS : compF Tryz.prog gt false false [] Tryz.f23 = some Hr := by kernel_rfl
theorem Ha : compF Tryz.prog gt false false [] Tryz.f24 = some Aq := by kernel_rfl
theorem LL : compF Tryz.prog gt false false [] Tryz.f25 = some CD := by kernel_rfl
theorem Nc : compF Tryz.prog gt false false [] Tryz.f26 = some Aw := by kernel_rfl
theorem MY : compF Tryz.prog gt false false [2000000001, 2000000005] Tryz.f27 = some DU := by kernel_rfl
theorem GD : compF Tryz.prog gt false false [] Tryz.f28 = some BM := by kernel_rfl
theorem G8 : compF Tryz.prog gt false false [] Tryz.f29 = some A5 := by kernel_rfl
theorem GZ : compF Tryz.prog gt false false [] Tryz.f30 = some CN := by kernel_rfl
theorem Ga : compF Tryz.prog gt false false [2000000007] Tryz.f31 = some BQ := by kernel_rfl
theorem Gb : compF Tryz.prog gt false false [] Tryz.f32 = some AM := by kernel_rfl
theorem Gc : compF Tryz.prog gt false false [2000000006] Tryz.f33 = some BR := by kernel_rfl
theorem R3 : compF Tryz.prog gt false false [1000014003] Tryz.f35 = some EP := by kernel_rfl
theorem P8 : compF Tryz.prog gt false false [] Tryz.f36 = some CF := by kernel_rfl
theorem R4 : compF Tryz.prog gt false false [1000001000] Tryz.f37 = some Kk := by kernel_rfl
theorem MZ : compF Tryz.prog gt false false [] Tryz.f38 = some F1 := by kernel_rfl
theorem Ma : compF Tryz.prog gt false false [] Tryz.f39 = some F2 := by kernel_rfl
theorem Im : compF Tryz.prog gt false false [] Tryz.f40 = some Dw := by kernel_rfl
theorem LM : compF Tryz.prog gt false false [] Tryz.f41 = some Ce := by kernel_rfl
theorem Di : compF Tryz.prog gt false false [] Tryz.f42 = some BB := by kernel_rfl
theorem DQ : compF Tryz.prog gt false false [] Tryz.f43 = some AX := by kernel_rfl
theorem Jh : compF Tryz.prog gt false false [] Tryz.f44 = some CW := by kernel_rfl
theorem Hz : compF Tryz.prog gt false false [] Tryz.f45 = some Ct := by kernel_rfl
theorem OT : compF Tryz.prog gt false false [] Tryz.f46 = some DL := by kernel_rfl
theorem Ef : compF Tryz.prog gt true false [] Tryz.f47 = some AP := by kernel_rfl
theorem G9 : compF Tryz.prog gt false false [1000009000] Tryz.f48 = some A6 := by kernel_rfl
theorem Gd : compF Tryz.prog gt false false [] Tryz.f49 = some Ao := by kernel_rfl
theorem HA : compF Tryz.prog gt false false [1000001000] Tryz.f50 = some DM := by kernel_rfl
theorem Ge : compF Tryz.prog gt false false [] Tryz.f51 = some CO := by kernel_rfl
theorem Gf : compF Tryz.prog gt false false [] Tryz.f52 = some Az := by kernel_rfl
theorem Nd : compF Tryz.prog gt false false [] Tryz.f53 = some Gt := by kernel_rfl
theorem R5 : compF Tryz.prog gt false false [] Tryz.f55 = some Ez := by kernel_rfl
theorem R6 : compF Tryz.prog gt false false [] Tryz.f56 = some Cm := by kernel_rfl
theorem ET : compF Tryz.prog gt false false [] Tryz.f57 = some Au := by kernel_rfl
theorem OU : compF Tryz.prog gt false false [] Tryz.f58 = some F3 := by kernel_rfl
theorem P9 : compF Tryz.prog gt false false [] Tryz.f59 = some JD := by kernel_rfl
theorem R7 : compF Tryz.prog gt false false [] Tryz.f60 = some Kl := by kernel_rfl
theorem Nf : compF Tryz.prog gt false false [] Tryz.f61 = some Gu := by kernel_rfl
theorem QA : compF Tryz.prog gt false false [] Tryz.f62 = some JE := by kernel_rfl
theorem EU : compF Tryz.prog gt false false [] Tryz.f63 = some Ab := by kernel_rfl
theorem DZ : compF Tryz.prog gt false false [] Tryz.f65 = some A2 := by kernel_rfl
theorem JJ : compF Tryz.prog gt false false [] Tryz.f66 = some DV := by kernel_rfl
theorem HB : compF Tryz.prog gt false false [] Tryz.f67 = some Ca := by kernel_rfl
theorem Dc : compF Tryz.prog gt false false [] Tryz.f68 = some Ac := by kernel_rfl
theorem Dz : compF Tryz.prog gt false false [] Tryz.f69 = some BH := by kernel_rfl
theorem HC : compF Tryz.prog gt false false [] Tryz.f70 = some Cb := by kernel_rfl
theorem HD : compF Tryz.prog gt false false [] Tryz.f71 = some BJ := by kernel_rfl
theorem HE : compF Tryz.prog gt false false [] Tryz.f72 = some AY := by kernel_rfl
theorem GE : compF Tryz.prog gt false false [1000006000, 1000008000] Tryz.f73 = some BN := by kernel_rfl
theorem Gg : compF Tryz.prog gt false false [] Tryz.f74 = some BS := by kernel_rfl
theorem OV : compF Tryz.prog gt false false [] Tryz.f75 = some Hs := by kernel_rfl
theorem QB : compF Tryz.prog gt false false [] Tryz.f76 = some JF := by kernel_rfl
theorem E9 : compF Tryz.prog gt false false [] Tryz.f81 = some A9 := by kernel_rfl
theorem Eg : compF Tryz.prog gt false false [] Tryz.f82 = some B9 := by kernel_rfl
theorem B4 : compF Tryz.prog gt false false [] Tryz.f83 = some Ai := by kernel_rfl
theorem EE : compF Tryz.prog gt false false [] Tryz.f84 = some Ak := by kernel_rfl
theorem DR : compF Tryz.prog gt false false [] Tryz.f87 = some BK := by kernel_rfl
theorem Io : compF Tryz.prog gt false false [] Tryz.f88 = some DA := by kernel_rfl
theorem Ip : compF Tryz.prog gt false false [] Tryz.f90 = some Be := by kernel_rfl
theorem OW : compF Tryz.prog gt false false [] Tryz.f91 = some Ht := by kernel_rfl
theorem Ng : compF Tryz.prog gt false false [] Tryz.f92 = some Gv := by kernel_rfl
theorem OX : compF Tryz.prog gt false false [] Tryz.f93 = some Hu := by kernel_rfl
theorem IA : compF Tryz.prog gt false false [] Tryz.f102 = some BC := by kernel_rfl
theorem E3 : compF Tryz.prog gt false false [] Tryz.f103 = some Bf := by kernel_rfl
theorem Gh : compF Tryz.prog gt false false [] Tryz.f104 = some BT := by kernel_rfl
theorem E4 : compF Tryz.prog gt false false [] Tryz.f105 = some Bg := by kernel_rfl
theorem Mb : compF Tryz.prog gt false false [5000000006] Tryz.f106 = some F4 := by kernel_rfl
theorem Fg : compF Tryz.prog gt false false [] Tryz.f121 = some Bw := by kernel_rfl
theorem FA : compF Tryz.prog gt false false [] Tryz.f122 = some CV := by kernel_rfl
theorem tab_ok : tab.All (Ue Tryz.prog gt) :=
 ⟨.inl ⟨rfl, Tryz.f53, [], false, Tryz.func53, Nd⟩, ⟨.inl ⟨rfl, Tryz.f32, [], false, Tryz.func32, Gb⟩, ⟨.inl ⟨rfl, Tryz.f22, [], false, Tryz.func22, R2⟩, ⟨.inl ⟨rfl, Tryz.f15, [], false, Tryz.func15, Ff⟩, ⟨.inl ⟨rfl, Tryz.f12, [], false, Tryz.func12, MX⟩, ⟨.inl ⟨rfl, Tryz.f11, [], false, Tryz.func11, LK⟩, ⟨.inl ⟨rfl, Tryz.f4, [], false, Tryz.func4, Ee⟩, trivial, trivial⟩, trivial⟩, ⟨.inl ⟨rfl, Tryz.f14, [], false, Tryz.func14, GX⟩, ⟨.inl ⟨rfl, Tryz.f13, [], false, Tryz.func13, E8⟩, trivial, trivial⟩, trivial⟩⟩, ⟨.inl ⟨rfl, Tryz.f18, [], false, Tryz.func18, GY⟩, ⟨.inl ⟨rfl, Tryz.f17, [], false, Tryz.func17, GC⟩, ⟨.inl ⟨rfl, Tryz.f16, [], false, Tryz.func16, GB⟩, trivial, trivial⟩, trivial⟩, ⟨.inl ⟨rfl, Tryz.f21, [], false, Tryz.func21, P7⟩, trivial, trivial⟩⟩⟩, ⟨.inl ⟨rfl, Tryz.f27, [2000000001, 2000000005], false, Tryz.func27, MY⟩, ⟨.inl ⟨rfl, Tryz.f25, [], false, Tryz.func25, LL⟩, ⟨.inl ⟨rfl, Tryz.f24, [], false, Tryz.func24, Ha⟩, ⟨.inl ⟨rfl, Tryz.f23, [], false, Tryz.func23, OS⟩, trivial, trivial⟩, trivial⟩, ⟨.inl ⟨rfl, Tryz.f26, [], false, Tryz.func26, Nc⟩, trivial, trivial⟩⟩, ⟨.inl ⟨rfl, Tryz.f30, [], false, Tryz.func30, GZ⟩, ⟨.inl ⟨rfl, Tryz.f29, [], false, Tryz.func29, G8⟩, ⟨.inl ⟨rfl, Tryz.f28, [], false, Tryz.func28, GD⟩, trivial, trivial⟩, trivial⟩, ⟨.inl ⟨rfl, Tryz.f31, [2000000007], false, Tryz.func31, Ga⟩, trivial, trivial⟩⟩⟩⟩, ⟨.inl ⟨rfl, Tryz.f43, [], false, Tryz.func43, DQ⟩, ⟨.inl ⟨rfl, Tryz.f38, [], false, Tryz.func38, MZ⟩, ⟨.inl ⟨rfl, Tryz.f36, [], false, Tryz.func36, P8⟩, ⟨.inl ⟨rfl, Tryz.f35, [1000014003], false, Tryz.func35, R3⟩, ⟨.inl ⟨rfl, Tryz.f33, [2000000006], false, Tryz.func33, Gc⟩, trivial, trivial⟩, trivial⟩, ⟨.inl ⟨rfl, Tryz.f37, [1000001000], false, Tryz.func37, R4⟩, trivial, trivial⟩⟩, ⟨.inl ⟨rfl, Tryz.f41, [], false, Tryz.func41, LM⟩, ⟨.inl ⟨rfl, Tryz.f40, [], false, Tryz.func40, Im⟩, ⟨.inl ⟨rfl, Tryz.f39, [], false, Tryz.func39, Ma⟩, trivial, trivial⟩, trivial⟩, ⟨.inl ⟨rfl, Tryz.f42, [], false, Tryz.func42, Di⟩, trivial, trivial⟩⟩⟩, ⟨.inl ⟨rfl, Tryz.f48, [1000009000], false, Tryz.func48, G9⟩, ⟨.inl ⟨rfl, Tryz.f46, [], false, Tryz.func46, OT⟩, ⟨.inl ⟨rfl, Tryz.f45, [], false, Tryz.func45, Hz⟩, ⟨.inl ⟨rfl, Tryz.f44, [], false, Tryz.func44, Jh⟩, trivial, trivial⟩, trivial⟩, ⟨.inl ⟨rfl, Tryz.f47, [], false, Tryz.func47, Ef⟩, trivial, trivial⟩⟩, ⟨.inl ⟨rfl, Tryz.f51, [], false, Tryz.func51, Ge⟩, ⟨.inl ⟨rfl, Tryz.f50, [1000001000], false, Tryz.func50, HA⟩, ⟨.inl ⟨rfl, Tryz.f49, [], false, Tryz.func49, Gd⟩, trivial, trivial⟩, trivial⟩, ⟨.inl ⟨rfl, Tryz.f52, [], false, Tryz.func52, Gf⟩, trivial, trivial⟩⟩⟩⟩⟩, ⟨.inl ⟨rfl, Tryz.f74, [], false, Tryz.func74, Gg⟩, ⟨.inr ⟨_, rfl, E5⟩, ⟨.inl ⟨rfl, Tryz.f59, [], false, Tryz.func59, P9⟩, ⟨.inl ⟨rfl, Tryz.f57, [], false, Tryz.func57, ET⟩, ⟨.inl ⟨rfl, Tryz.f56, [], false, Tryz.func56, R6⟩, ⟨.inl ⟨rfl, Tryz.f55, [], false, Tryz.func55, R5⟩, trivial, trivial⟩, trivial⟩, ⟨.inl ⟨rfl, Tryz.f58, [], false, Tryz.func58, OU⟩, trivial, trivial⟩⟩, ⟨.inl ⟨rfl, Tryz.f62, [], false, Tryz.func62, QA⟩, ⟨.inl ⟨rfl, Tryz.f61, [], false, Tryz.func61, Nf⟩, ⟨.inl ⟨rfl, Tryz.f60, [], false, Tryz.func60, R7⟩, trivial, trivial⟩, trivial⟩, ⟨.inl ⟨rfl, Tryz.f63, [], false, Tryz.func63, EU⟩, trivial, trivial⟩⟩⟩, ⟨.inl ⟨rfl, Tryz.f69, [], false, Tryz.func69, Dz⟩, ⟨.inl ⟨rfl, Tryz.f67, [], false, Tryz.func67, HB⟩, ⟨.inl ⟨rfl, Tryz.f66, [], false, Tryz.func66, JJ⟩, ⟨.inl ⟨rfl, Tryz.f65, [], false, Tryz.func65, DZ⟩, trivial, trivial⟩, trivial⟩, ⟨.inl ⟨rfl, Tryz.f68, [], false, Tryz.func68, Dc⟩, trivial, trivial⟩⟩, ⟨.inl ⟨rfl, Tryz.f72, [], false, Tryz.func72, HE⟩, ⟨.inl ⟨rfl, Tryz.f71, [], false, Tryz.func71, HD⟩, ⟨.inl ⟨rfl, Tryz.f70, [], false, Tryz.func70, HC⟩, trivial, trivial⟩, trivial⟩, ⟨.inl ⟨rfl, Tryz.f73, [1000006000, 1000008000], false, Tryz.func73, GE⟩, trivial, trivial⟩⟩⟩⟩, ⟨.inl ⟨rfl, Tryz.f91, [], false, Tryz.func91, OW⟩, ⟨.inl ⟨rfl, Tryz.f83, [], false, Tryz.func83, B4⟩, ⟨.inl ⟨rfl, Tryz.f81, [], false, Tryz.func81, E9⟩, ⟨.inl ⟨rfl, Tryz.f76, [], false, Tryz.func76, QB⟩, ⟨.inl ⟨rfl, Tryz.f75, [], false, Tryz.func75, OV⟩, trivial, trivial⟩, trivial⟩, ⟨.inl ⟨rfl, Tryz.f82, [], false, Tryz.func82, Eg⟩, trivial, trivial⟩⟩, ⟨.inl ⟨rfl, Tryz.f88, [], false, Tryz.func88, Io⟩, ⟨.inl ⟨rfl, Tryz.f87, [], false, Tryz.func87, DR⟩, ⟨.inl ⟨rfl, Tryz.f84, [], false, Tryz.func84, EE⟩, trivial, trivial⟩, trivial⟩, ⟨.inl ⟨rfl, Tryz.f90, [], false, Tryz.func90, Ip⟩, trivial, trivial⟩⟩⟩, ⟨.inl ⟨rfl, Tryz.f104, [], false, Tryz.func104, Gh⟩, ⟨.inl ⟨rfl, Tryz.f102, [], false, Tryz.func102, IA⟩, ⟨.inl ⟨rfl, Tryz.f93, [], false, Tryz.func93, OX⟩, ⟨.inl ⟨rfl, Tryz.f92, [], false, Tryz.func92, Ng⟩, trivial, trivial⟩, trivial⟩, ⟨.inl ⟨rfl, Tryz.f103, [], false, Tryz.func103, E3⟩, trivial, trivial⟩⟩, ⟨.inl ⟨rfl, Tryz.f121, [], false, Tryz.func121, Fg⟩, ⟨.inl ⟨rfl, Tryz.f106, [5000000006], false, Tryz.func106, Mb⟩, ⟨.inl ⟨rfl, Tryz.f105, [], false, Tryz.func105, E4⟩, trivial, trivial⟩, trivial⟩, ⟨.inl ⟨rfl, Tryz.f122, [], false, Tryz.func122, FA⟩, trivial, trivial⟩⟩⟩⟩⟩⟩
theorem fns_ok : ∀ (f : Nat) (fn : Fun), prog f = some fn → Ue Tryz.prog gt f fn := fun f fn h => PT.all_get tab_ok h
end Go.Proofs.YtbfgoopcnkeblaaGreat
