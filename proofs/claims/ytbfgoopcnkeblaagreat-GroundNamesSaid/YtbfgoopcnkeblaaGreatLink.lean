/-
  The abstract machine's functions are the dump's. By program.
-/
import Derived.Test.YtbfgoopcnkeblaaGreatRows
import Derived.Test.YtbfgoopcnkeblaaGreatAmKeep
import Derived.Test.YtbfgoopcnkeblaaGreatFns
import Derived.Test.YtbfgoopcnkeblaaGreatPrims
set_option linter.all false
set_option linter.unusedVariables false
set_option linter.unusedSimpArgs false
set_option linter.unusedSectionVars false
set_option maxRecDepth 100000
namespace Go.Proofs.YtbfgoopcnkeblaaGreat
open Go.Proofs.YtbfgoopcnkeblaaGreat.Am Go.Proofs
def gt : Nat → Option (List AV)
 | _ => none
theorem DH : compF Tryz.prog gt false false [2000000006, 2000000010, 2000000013, 5000000005, 5000000006, 5000000012, 5000000013] Tryz.f3 = some BH := by kernel_rfl
theorem Er : compF Tryz.prog gt false false [] Tryz.f6 = some CZ := by kernel_rfl
theorem FO : compF Tryz.prog gt true false [7] Tryz.f7 = some C9 := by kernel_rfl
theorem E3 : compF Tryz.prog gt false false [] Tryz.f8 = some Cl := by kernel_rfl
theorem Fe : compF Tryz.prog gt false false [] Tryz.f9 = some DL := by kernel_rfl
theorem Kc : compF Tryz.prog gt false false [] Tryz.f10 = some HN := by kernel_rfl
theorem Ia : compF Tryz.prog gt false false [] Tryz.f11 = some Fk := by kernel_rfl
theorem JY : compF Tryz.prog gt false false [] Tryz.f12 = some GZ := by kernel_rfl
theorem Dv : compF Tryz.prog gt false false [] Tryz.f13 = some Bp := by kernel_rfl
theorem E4 : compF Tryz.prog gt false false [] Tryz.f14 = some Cm := by kernel_rfl
theorem JZ : compF Tryz.prog gt false false [] Tryz.f20 = some Ga := by kernel_rfl
theorem Lw : compF Tryz.prog gt false false [] Tryz.f21 = some Iw := by kernel_rfl
theorem M6 : compF Tryz.prog gt false false [] Tryz.f22 = some KV := by kernel_rfl
theorem K0 : compF Tryz.prog gt false false [] Tryz.f23 = some IE := by kernel_rfl
theorem Ff : compF Tryz.prog gt false false [] Tryz.f24 = some DM := by kernel_rfl
theorem Ib : compF Tryz.prog gt false false [] Tryz.f25 = some Fl := by kernel_rfl
theorem Kd : compF Tryz.prog gt false false [] Tryz.f26 = some HO := by kernel_rfl
theorem Ja : compF Tryz.prog gt false false [2000000001, 2000000005] Tryz.f27 = some Gb := by kernel_rfl
theorem Jb : compF Tryz.prog gt false false [1000006000, 1000008000] Tryz.f34 = some Gc := by kernel_rfl
theorem M7 : compF Tryz.prog gt false false [1000014003] Tryz.f35 = some KX := by kernel_rfl
theorem Lx : compF Tryz.prog gt false false [] Tryz.f36 = some Ix := by kernel_rfl
theorem M8 : compF Tryz.prog gt false false [1000001000] Tryz.f37 = some KY := by kernel_rfl
theorem Jc : compF Tryz.prog gt false false [] Tryz.f38 = some Gd := by kernel_rfl
theorem Jd : compF Tryz.prog gt false false [] Tryz.f39 = some Ge := by kernel_rfl
theorem Gh : compF Tryz.prog gt false false [] Tryz.f40 = some D6 := by kernel_rfl
theorem Ic : compF Tryz.prog gt false false [] Tryz.f41 = some Fm := by kernel_rfl
theorem CF : compF Tryz.prog gt false false [] Tryz.f42 = some Ax := by kernel_rfl
theorem Bg : compF Tryz.prog gt false false [] Tryz.f43 = some Ah := by kernel_rfl
theorem HZ : compF Tryz.prog gt false false [] Tryz.f44 = some Ev := by kernel_rfl
theorem F1 : compF Tryz.prog gt false false [] Tryz.f45 = some Dk := by kernel_rfl
theorem K1 : compF Tryz.prog gt false false [] Tryz.f46 = some IG := by kernel_rfl
theorem DT : compF Tryz.prog gt true false [] Tryz.f47 = some BO := by kernel_rfl
theorem Ke : compF Tryz.prog gt false false [] Tryz.f53 = some HP := by kernel_rfl
theorem IL : compF Tryz.prog gt false false [] Tryz.f54 = some FL := by kernel_rfl
theorem M9 : compF Tryz.prog gt false false [] Tryz.f55 = some KZ := by kernel_rfl
theorem NA : compF Tryz.prog gt false false [] Tryz.f56 = some Ka := by kernel_rfl
theorem DI : compF Tryz.prog gt false false [] Tryz.f57 = some BI := by kernel_rfl
theorem K2 : compF Tryz.prog gt false false [] Tryz.f58 = some IH := by kernel_rfl
theorem Ly : compF Tryz.prog gt false false [] Tryz.f59 = some Iy := by kernel_rfl
theorem NB : compF Tryz.prog gt false false [] Tryz.f60 = some Kb := by kernel_rfl
theorem Kf : compF Tryz.prog gt false false [] Tryz.f61 = some HQ := by kernel_rfl
theorem Lz : compF Tryz.prog gt false false [] Tryz.f62 = some Iz := by kernel_rfl
theorem DJ : compF Tryz.prog gt false false [] Tryz.f63 = some BJ := by kernel_rfl
theorem Bv : compF Tryz.prog gt false false [] Tryz.f65 = some An := by kernel_rfl
theorem HA : compF Tryz.prog gt false false [] Tryz.f66 = some ER := by kernel_rfl
theorem FP : compF Tryz.prog gt false false [] Tryz.f67 = some DA := by kernel_rfl
theorem B4 : compF Tryz.prog gt false false [] Tryz.f68 = some Ar := by kernel_rfl
theorem Ch : compF Tryz.prog gt false false [] Tryz.f69 = some A5 := by kernel_rfl
theorem FQ : compF Tryz.prog gt false false [] Tryz.f70 = some DB := by kernel_rfl
theorem K3 : compF Tryz.prog gt false false [] Tryz.f75 = some II := by kernel_rfl
theorem L0 : compF Tryz.prog gt false false [] Tryz.f76 = some I0 := by kernel_rfl
theorem Je : compF Tryz.prog gt false false [] Tryz.f77 = some Gf := by kernel_rfl
theorem CH : compF Tryz.prog gt false false [] Tryz.f78 = some Ay := by kernel_rfl
theorem HB : compF Tryz.prog gt false false [] Tryz.f79 = some ES := by kernel_rfl
theorem HC : compF Tryz.prog gt false false [] Tryz.f80 = some ET := by kernel_rfl
theorem Dw : compF Tryz.prog gt false false [] Tryz.f81 = some Bq := by kernel_rfl
theorem DU : compF Tryz.prog gt false false [] Tryz.f82 = some BP := by kernel_rfl
theorem Ao : compF Tryz.prog gt false false [] Tryz.f83 = some AQ := by kernel_rfl
theorem C1 : compF Tryz.prog gt false false [] Tryz.f84 = some BA := by kernel_rfl
theorem Bh : compF Tryz.prog gt false false [] Tryz.f87 = some Ai := by kernel_rfl
theorem Gi : compF Tryz.prog gt false false [] Tryz.f88 = some D7 := by kernel_rfl
theorem Gj : compF Tryz.prog gt false false [] Tryz.f90 = some D8 := by kernel_rfl
theorem K4 : compF Tryz.prog gt false false [] Tryz.f91 = some IJ := by kernel_rfl
theorem Kg : compF Tryz.prog gt false false [] Tryz.f92 = some HR := by kernel_rfl
theorem K5 : compF Tryz.prog gt false false [] Tryz.f93 = some IK := by kernel_rfl
theorem F2 : compF Tryz.prog gt false false [1000002003] Tryz.f94 = some Dl := by kernel_rfl
theorem Es : compF Tryz.prog gt false false [] Tryz.f95 = some Ca := by kernel_rfl
theorem IM : compF Tryz.prog gt false false [] Tryz.f96 = some FM := by kernel_rfl
theorem EC : compF Tryz.prog gt false false [] Tryz.f97 = some B2 := by kernel_rfl
theorem Ci : compF Tryz.prog gt false false [] Tryz.f98 = some A6 := by kernel_rfl
theorem IP : compF Tryz.prog gt false false [] Tryz.f101 = some FN := by kernel_rfl
theorem F3 : compF Tryz.prog gt false false [] Tryz.f102 = some Dm := by kernel_rfl
theorem Dn : compF Tryz.prog gt false false [] Tryz.f103 = some Bd := by kernel_rfl
theorem E5 : compF Tryz.prog gt false false [] Tryz.f104 = some Cn := by kernel_rfl
theorem Dp : compF Tryz.prog gt false false [] Tryz.f105 = some Be := by kernel_rfl
theorem Jf : compF Tryz.prog gt false false [5000000006] Tryz.f106 = some Gg := by kernel_rfl
theorem Fg : compF Tryz.prog gt false false [] Tryz.f107 = some DN := by kernel_rfl
theorem FR : compF Tryz.prog gt false false [] Tryz.f108 = some DC := by kernel_rfl
theorem ED : compF Tryz.prog gt false false [] Tryz.f109 = some B3 := by kernel_rfl
theorem E6 : compF Tryz.prog gt false false [] Tryz.f110 = some Co := by kernel_rfl
theorem HD : compF Tryz.prog gt false false [] Tryz.f119 = some EU := by kernel_rfl
theorem HE : compF Tryz.prog gt false false [] Tryz.f120 = some EV := by kernel_rfl
theorem EW : compF Tryz.prog gt false false [] Tryz.f121 = some CK := by kernel_rfl
theorem Dx : compF Tryz.prog gt false false [] Tryz.f122 = some Br := by kernel_rfl
theorem Dy : compF Tryz.prog gt false true [] Tryz.f124 = some Bs := by kernel_rfl
theorem Dq : compF Tryz.prog gt false false [] Tryz.f125 = some Bf := by kernel_rfl
theorem Et : compF Tryz.prog gt false false [] Tryz.f127 = some Cb := by kernel_rfl
theorem E7 : compF Tryz.prog gt false false [] Tryz.f128 = some Cp := by kernel_rfl
theorem Cc : compF Tryz.prog gt false false [1000006000] Tryz.f131 = some A3 := by kernel_rfl
theorem DV : compF Tryz.prog gt false false [1000010000] Tryz.f132 = some BQ := by kernel_rfl
theorem Cd : compF Tryz.prog gt false false [1000010000] Tryz.f133 = some A4 := by kernel_rfl
theorem C2 : compF Tryz.prog gt false false [] Tryz.f134 = some BB := by kernel_rfl
theorem Cj : compF Tryz.prog gt false false [1000003000] Tryz.f135 = some A7 := by kernel_rfl
theorem BT : compF Tryz.prog gt false false [1000011000, 1000017000, 1000023000] Tryz.f136 = some Af := by kernel_rfl
theorem Id : compF Tryz.prog gt false false [] Tryz.f137 = some Fn := by kernel_rfl
theorem CM : compF Tryz.prog gt false false [1000001000, 1000008000] Tryz.f138 = some Az := by kernel_rfl
theorem DK : compF Tryz.prog gt false false [1000001000, 1000008000, 1000010000, 1000018000, 1000021000] Tryz.f139 = some BG := by kernel_rfl
theorem DW : compF Tryz.prog gt false false [1000006000] Tryz.f141 = some BM := by kernel_rfl
theorem CN : compF Tryz.prog gt false false [] Tryz.f142 = some A1 := by kernel_rfl
theorem Dz : compF Tryz.prog gt false false [] Tryz.f143 = some Bk := by kernel_rfl
theorem IQ : compF Tryz.prog gt false false [] Tryz.f144 = some FG := by kernel_rfl
theorem D1 : compF Tryz.prog gt false false [] Tryz.f145 = some Bl := by kernel_rfl
theorem tab_ok : tab.All (Ot Tryz.prog gt) :=
 ⟨.inl ⟨rfl, Tryz.f76, [], false, Tryz.func76, L0⟩, ⟨.inl ⟨rfl, Tryz.f41, [], false, Tryz.func41, Ic⟩, ⟨.inl ⟨rfl, Tryz.f22, [], false, Tryz.func22, M6⟩, ⟨.inl ⟨rfl, Tryz.f11, [], false, Tryz.func11, Ia⟩, ⟨.inl ⟨rfl, Tryz.f8, [], false, Tryz.func8, E3⟩, ⟨.inl ⟨rfl, Tryz.f6, [], false, Tryz.func6, Er⟩, ⟨.inl ⟨rfl, Tryz.f3, [2000000006, 2000000010, 2000000013, 5000000005, 5000000006, 5000000012, 5000000013], false, Tryz.func3, DH⟩, trivial, trivial⟩, ⟨.inl ⟨rfl, Tryz.f7, [7], false, Tryz.func7, FO⟩, trivial, trivial⟩⟩, ⟨.inl ⟨rfl, Tryz.f10, [], false, Tryz.func10, Kc⟩, ⟨.inl ⟨rfl, Tryz.f9, [], false, Tryz.func9, Fe⟩, trivial, trivial⟩, trivial⟩⟩, ⟨.inl ⟨rfl, Tryz.f14, [], false, Tryz.func14, E4⟩, ⟨.inl ⟨rfl, Tryz.f13, [], false, Tryz.func13, Dv⟩, ⟨.inl ⟨rfl, Tryz.f12, [], false, Tryz.func12, JY⟩, trivial, trivial⟩, trivial⟩, ⟨.inl ⟨rfl, Tryz.f21, [], false, Tryz.func21, Lw⟩, ⟨.inl ⟨rfl, Tryz.f20, [], false, Tryz.func20, JZ⟩, trivial, trivial⟩, trivial⟩⟩⟩, ⟨.inl ⟨rfl, Tryz.f35, [1000014003], false, Tryz.func35, M7⟩, ⟨.inl ⟨rfl, Tryz.f26, [], false, Tryz.func26, Kd⟩, ⟨.inl ⟨rfl, Tryz.f24, [], false, Tryz.func24, Ff⟩, ⟨.inl ⟨rfl, Tryz.f23, [], false, Tryz.func23, K0⟩, trivial, trivial⟩, ⟨.inl ⟨rfl, Tryz.f25, [], false, Tryz.func25, Ib⟩, trivial, trivial⟩⟩, ⟨.inl ⟨rfl, Tryz.f34, [1000006000, 1000008000], false, Tryz.func34, Jb⟩, ⟨.inl ⟨rfl, Tryz.f27, [2000000001, 2000000005], false, Tryz.func27, Ja⟩, trivial, trivial⟩, trivial⟩⟩, ⟨.inl ⟨rfl, Tryz.f38, [], false, Tryz.func38, Jc⟩, ⟨.inl ⟨rfl, Tryz.f37, [1000001000], false, Tryz.func37, M8⟩, ⟨.inl ⟨rfl, Tryz.f36, [], false, Tryz.func36, Lx⟩, trivial, trivial⟩, trivial⟩, ⟨.inl ⟨rfl, Tryz.f40, [], false, Tryz.func40, Gh⟩, ⟨.inl ⟨rfl, Tryz.f39, [], false, Tryz.func39, Jd⟩, trivial, trivial⟩, trivial⟩⟩⟩⟩, ⟨.inl ⟨rfl, Tryz.f59, [], false, Tryz.func59, Ly⟩, ⟨.inl ⟨rfl, Tryz.f53, [], false, Tryz.func53, Ke⟩, ⟨.inl ⟨rfl, Tryz.f45, [], false, Tryz.func45, F1⟩, ⟨.inl ⟨rfl, Tryz.f43, [], false, Tryz.func43, Bg⟩, ⟨.inl ⟨rfl, Tryz.f42, [], false, Tryz.func42, CF⟩, trivial, trivial⟩, ⟨.inl ⟨rfl, Tryz.f44, [], false, Tryz.func44, HZ⟩, trivial, trivial⟩⟩, ⟨.inl ⟨rfl, Tryz.f47, [], false, Tryz.func47, DT⟩, ⟨.inl ⟨rfl, Tryz.f46, [], false, Tryz.func46, K1⟩, trivial, trivial⟩, trivial⟩⟩, ⟨.inl ⟨rfl, Tryz.f56, [], false, Tryz.func56, NA⟩, ⟨.inl ⟨rfl, Tryz.f55, [], false, Tryz.func55, M9⟩, ⟨.inl ⟨rfl, Tryz.f54, [], false, Tryz.func54, IL⟩, trivial, trivial⟩, trivial⟩, ⟨.inl ⟨rfl, Tryz.f58, [], false, Tryz.func58, K2⟩, ⟨.inl ⟨rfl, Tryz.f57, [], false, Tryz.func57, DI⟩, trivial, trivial⟩, trivial⟩⟩⟩, ⟨.inl ⟨rfl, Tryz.f66, [], false, Tryz.func66, HA⟩, ⟨.inl ⟨rfl, Tryz.f63, [], false, Tryz.func63, DJ⟩, ⟨.inl ⟨rfl, Tryz.f61, [], false, Tryz.func61, Kf⟩, ⟨.inl ⟨rfl, Tryz.f60, [], false, Tryz.func60, NB⟩, trivial, trivial⟩, ⟨.inl ⟨rfl, Tryz.f62, [], false, Tryz.func62, Lz⟩, trivial, trivial⟩⟩, ⟨.inl ⟨rfl, Tryz.f65, [], false, Tryz.func65, Bv⟩, ⟨.inr ⟨_, rfl, Dr⟩, trivial, trivial⟩, trivial⟩⟩, ⟨.inl ⟨rfl, Tryz.f69, [], false, Tryz.func69, Ch⟩, ⟨.inl ⟨rfl, Tryz.f68, [], false, Tryz.func68, B4⟩, ⟨.inl ⟨rfl, Tryz.f67, [], false, Tryz.func67, FP⟩, trivial, trivial⟩, trivial⟩, ⟨.inl ⟨rfl, Tryz.f75, [], false, Tryz.func75, K3⟩, ⟨.inl ⟨rfl, Tryz.f70, [], false, Tryz.func70, FQ⟩, trivial, trivial⟩, trivial⟩⟩⟩⟩⟩, ⟨.inl ⟨rfl, Tryz.f107, [], false, Tryz.func107, Fg⟩, ⟨.inl ⟨rfl, Tryz.f92, [], false, Tryz.func92, Kg⟩, ⟨.inl ⟨rfl, Tryz.f83, [], false, Tryz.func83, Ao⟩, ⟨.inl ⟨rfl, Tryz.f80, [], false, Tryz.func80, HC⟩, ⟨.inl ⟨rfl, Tryz.f78, [], false, Tryz.func78, CH⟩, ⟨.inl ⟨rfl, Tryz.f77, [], false, Tryz.func77, Je⟩, trivial, trivial⟩, ⟨.inl ⟨rfl, Tryz.f79, [], false, Tryz.func79, HB⟩, trivial, trivial⟩⟩, ⟨.inl ⟨rfl, Tryz.f82, [], false, Tryz.func82, DU⟩, ⟨.inl ⟨rfl, Tryz.f81, [], false, Tryz.func81, Dw⟩, trivial, trivial⟩, trivial⟩⟩, ⟨.inl ⟨rfl, Tryz.f88, [], false, Tryz.func88, Gi⟩, ⟨.inl ⟨rfl, Tryz.f87, [], false, Tryz.func87, Bh⟩, ⟨.inl ⟨rfl, Tryz.f84, [], false, Tryz.func84, C1⟩, trivial, trivial⟩, trivial⟩, ⟨.inl ⟨rfl, Tryz.f91, [], false, Tryz.func91, K4⟩, ⟨.inl ⟨rfl, Tryz.f90, [], false, Tryz.func90, Gj⟩, trivial, trivial⟩, trivial⟩⟩⟩, ⟨.inl ⟨rfl, Tryz.f101, [], false, Tryz.func101, IP⟩, ⟨.inl ⟨rfl, Tryz.f96, [], false, Tryz.func96, IM⟩, ⟨.inl ⟨rfl, Tryz.f94, [1000002003], false, Tryz.func94, F2⟩, ⟨.inl ⟨rfl, Tryz.f93, [], false, Tryz.func93, K5⟩, trivial, trivial⟩, ⟨.inl ⟨rfl, Tryz.f95, [], false, Tryz.func95, Es⟩, trivial, trivial⟩⟩, ⟨.inl ⟨rfl, Tryz.f98, [], false, Tryz.func98, Ci⟩, ⟨.inl ⟨rfl, Tryz.f97, [], false, Tryz.func97, EC⟩, trivial, trivial⟩, trivial⟩⟩, ⟨.inl ⟨rfl, Tryz.f104, [], false, Tryz.func104, E5⟩, ⟨.inl ⟨rfl, Tryz.f103, [], false, Tryz.func103, Dn⟩, ⟨.inl ⟨rfl, Tryz.f102, [], false, Tryz.func102, F3⟩, trivial, trivial⟩, trivial⟩, ⟨.inl ⟨rfl, Tryz.f106, [5000000006], false, Tryz.func106, Jf⟩, ⟨.inl ⟨rfl, Tryz.f105, [], false, Tryz.func105, Dp⟩, trivial, trivial⟩, trivial⟩⟩⟩⟩, ⟨.inl ⟨rfl, Tryz.f132, [1000010000], false, Tryz.func132, DV⟩, ⟨.inl ⟨rfl, Tryz.f122, [], false, Tryz.func122, Dx⟩, ⟨.inl ⟨rfl, Tryz.f119, [], false, Tryz.func119, HD⟩, ⟨.inl ⟨rfl, Tryz.f109, [], false, Tryz.func109, ED⟩, ⟨.inl ⟨rfl, Tryz.f108, [], false, Tryz.func108, FR⟩, trivial, trivial⟩, ⟨.inl ⟨rfl, Tryz.f110, [], false, Tryz.func110, E6⟩, trivial, trivial⟩⟩, ⟨.inl ⟨rfl, Tryz.f121, [], false, Tryz.func121, EW⟩, ⟨.inl ⟨rfl, Tryz.f120, [], false, Tryz.func120, HE⟩, trivial, trivial⟩, trivial⟩⟩, ⟨.inl ⟨rfl, Tryz.f127, [], false, Tryz.func127, Et⟩, ⟨.inl ⟨rfl, Tryz.f125, [], false, Tryz.func125, Dq⟩, ⟨.inl ⟨rfl, Tryz.f124, [], true, Tryz.func124, Dy⟩, trivial, trivial⟩, trivial⟩, ⟨.inl ⟨rfl, Tryz.f131, [1000006000], false, Tryz.func131, Cc⟩, ⟨.inl ⟨rfl, Tryz.f128, [], false, Tryz.func128, E7⟩, trivial, trivial⟩, trivial⟩⟩⟩, ⟨.inl ⟨rfl, Tryz.f139, [1000001000, 1000008000, 1000010000, 1000018000, 1000021000], false, Tryz.func139, DK⟩, ⟨.inl ⟨rfl, Tryz.f136, [1000011000, 1000017000, 1000023000], false, Tryz.func136, BT⟩, ⟨.inl ⟨rfl, Tryz.f134, [], false, Tryz.func134, C2⟩, ⟨.inl ⟨rfl, Tryz.f133, [1000010000], false, Tryz.func133, Cd⟩, trivial, trivial⟩, ⟨.inl ⟨rfl, Tryz.f135, [1000003000], false, Tryz.func135, Cj⟩, trivial, trivial⟩⟩, ⟨.inl ⟨rfl, Tryz.f138, [1000001000, 1000008000], false, Tryz.func138, CM⟩, ⟨.inl ⟨rfl, Tryz.f137, [], false, Tryz.func137, Id⟩, trivial, trivial⟩, trivial⟩⟩, ⟨.inl ⟨rfl, Tryz.f143, [], false, Tryz.func143, Dz⟩, ⟨.inl ⟨rfl, Tryz.f142, [], false, Tryz.func142, CN⟩, ⟨.inl ⟨rfl, Tryz.f141, [1000006000], false, Tryz.func141, DW⟩, trivial, trivial⟩, trivial⟩, ⟨.inl ⟨rfl, Tryz.f145, [], false, Tryz.func145, D1⟩, ⟨.inl ⟨rfl, Tryz.f144, [], false, Tryz.func144, IQ⟩, trivial, trivial⟩, trivial⟩⟩⟩⟩⟩⟩
theorem fns_ok : ∀ (f : Nat) (fn : Fun), prog f = some fn → Ot Tryz.prog gt f fn := fun f fn h => PT.all_get tab_ok h
end Go.Proofs.YtbfgoopcnkeblaaGreat
