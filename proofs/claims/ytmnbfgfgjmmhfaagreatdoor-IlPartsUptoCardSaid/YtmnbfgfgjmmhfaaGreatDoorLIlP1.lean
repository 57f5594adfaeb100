/-
  The abstract machine's functions are the dump's. By program.
-/
import Derived.Test.YtmnbfgfgjmmhfaaGreatDoorRows
import Derived.Test.YtmnbfgfgjmmhfaaGreatDoorAmKeep
import Derived.Test.YtmnbfgfgjmmhfaaGreatDoorFns
import Derived.Test.YtmnbfgfgjmmhfaaGreatDoorPrims
import Derived.KernelRfl
import Derived.Test.YtmnbfgfgjmmhfaaGreatDoorAmSorted
import Derived.Laws.RangeAny
set_option linter.all false
set_option linter.unusedVariables false
set_option linter.unusedSimpArgs false
set_option linter.unusedSectionVars false
set_option maxRecDepth 100000
namespace Go.Proofs.YtmnbfgfgjmmhfaaGreatDoor
open Go.Proofs.YtmnbfgfgjmmhfaaGreatDoor.Am Go.Proofs
def gt : Nat → Option (List AV)
 | _ => none
theorem Fm : compF Tryz.prog gt false false [] Tryz.f5 = some AX := by kernel_rfl
theorem Pm : compF Tryz.prog gt false false [] Tryz.f18 = some D0 := by kernel_rfl
theorem Ly : compF Tryz.prog gt true false [] Tryz.f21 = some Df := by kernel_rfl
theorem N0 : compF Tryz.prog gt false false [] Tryz.f23 = some DR := by kernel_rfl
theorem N1 : compF Tryz.prog gt true false [] Tryz.f24 = some Ee := by kernel_rfl
theorem Gl : compF Tryz.prog gt false false [] Tryz.f25 = some Ae := by kernel_rfl
theorem Gc : compF Tryz.prog gt false false [] Tryz.f26 = some Dg := by kernel_rfl
theorem EB : compF Tryz.prog gt false false [] Tryz.f27 = some AO := by kernel_rfl
theorem GD : compF Tryz.prog gt false false [] Tryz.f28 = some AJ := by kernel_rfl
theorem SQ : compF Tryz.prog gt false false [2000000016] Tryz.f29 = some Nb := by kernel_rfl
theorem Lz : compF Tryz.prog gt false false [] Tryz.f49 = some F7 := by kernel_rfl
theorem Ip : compF Tryz.prog gt false false [] Tryz.f50 = some Bv := by kernel_rfl
theorem Bk : compF Tryz.prog gt false false [] Tryz.f51 = some AK := by kernel_rfl
theorem L4 : compF Tryz.prog gt false false [] Tryz.f52 = some EP := by kernel_rfl
theorem Pn : compF Tryz.prog gt false false [1000004003] Tryz.f53 = some DX := by kernel_rfl
theorem Bp : compF Tryz.prog gt false false [] Tryz.f54 = some AN := by kernel_rfl
theorem L5 : compF Tryz.prog gt false false [] Tryz.f55 = some EQ := by kernel_rfl
theorem L6 : compF Tryz.prog gt true false [1000005005, 1000006005] Tryz.f57 = some Ce := by kernel_rfl
theorem Je : compF Tryz.prog gt false false [] Tryz.f58 = some C9 := by kernel_rfl
theorem Fg : compF Tryz.prog gt false false [] Tryz.f59 = some CN := by kernel_rfl
theorem Po : compF Tryz.prog gt false false [] Tryz.f60 = some GZ := by kernel_rfl
theorem K9 : compF Tryz.prog gt false false [] Tryz.f61 = some Cn := by kernel_rfl
theorem D4 : compF Tryz.prog gt false false [] Tryz.f62 = some AR := by kernel_rfl
theorem Jv : compF Tryz.prog gt false false [] Tryz.f63 = some Ge := by kernel_rfl
theorem SR : compF Tryz.prog gt false false [] Tryz.f64 = some Nc := by kernel_rfl
theorem LW : compF Tryz.prog gt false false [] Tryz.f65 = some Ha := by kernel_rfl
theorem Jf : compF Tryz.prog gt false false [] Tryz.f84 = some DA := by kernel_rfl
theorem Hc : compF Tryz.prog gt false false [] Tryz.f85 = some CV := by kernel_rfl
theorem Jg : compF Tryz.prog gt false false [] Tryz.f86 = some Ef := by kernel_rfl
theorem Jh : compF Tryz.prog gt false false [] Tryz.f87 = some Bx := by kernel_rfl
theorem Bz : compF Tryz.prog gt false false [] Tryz.f88 = some AP := by kernel_rfl
theorem CW : compF Tryz.prog gt true false [] Tryz.f89 = some AY := by kernel_rfl
theorem FS : compF Tryz.prog gt false false [] Tryz.f90 = some CA := by kernel_rfl
theorem L7 : compF Tryz.prog gt false false [] Tryz.f91 = some DL := by kernel_rfl
theorem CH : compF Tryz.prog gt false false [] Tryz.f92 = some AW := by kernel_rfl
theorem HD : compF Tryz.prog gt false false [] Tryz.f94 = some DB := by kernel_rfl
theorem L8 : compF Tryz.prog gt false false [] Tryz.f95 = some B3 := by kernel_rfl
theorem LA : compF Tryz.prog gt false false [] Tryz.f96 = some G8 := by kernel_rfl
theorem Gm : compF Tryz.prog gt false false [] Tryz.f97 = some D9 := by kernel_rfl
theorem Eo : compF Tryz.prog gt false false [] Tryz.f98 = some Ct := by kernel_rfl
theorem HE : compF Tryz.prog gt false false [] Tryz.f99 = some Eg := by kernel_rfl
theorem GE : compF Tryz.prog gt false false [] Tryz.f100 = some Dh := by kernel_rfl
theorem SS : compF Tryz.prog gt false false [] Tryz.f101 = some Nd := by kernel_rfl
theorem N2 : compF Tryz.prog gt false false [] Tryz.f102 = some JZ := by kernel_rfl
theorem LB : compF Tryz.prog gt false false [] Tryz.f117 = some Co := by kernel_rfl
theorem CX : compF Tryz.prog gt false false [] Tryz.f118 = some AQ := by kernel_rfl
theorem Ji : compF Tryz.prog gt false false [] Tryz.f119 = some Bi := by kernel_rfl
theorem C3 : compF Tryz.prog gt false false [] Tryz.f120 = some Ax := by kernel_rfl
theorem JP : compF Tryz.prog gt false false [] Tryz.f121 = some F8 := by kernel_rfl
theorem JQ : compF Tryz.prog gt false false [] Tryz.f122 = some F9 := by kernel_rfl
theorem FT : compF Tryz.prog gt false false [] Tryz.f123 = some DC := by kernel_rfl
theorem Gn : compF Tryz.prog gt false false [0] Tryz.f124 = some EA := by kernel_rfl
theorem LX : compF Tryz.prog gt false false [] Tryz.f125 = some Hb := by kernel_rfl
theorem JR : compF Tryz.prog gt false false [] Tryz.f138 = some GA := by kernel_rfl
theorem Iq : compF Tryz.prog gt false false [] Tryz.f142 = some Cp := by kernel_rfl
theorem Jj : compF Tryz.prog gt false false [] Tryz.f143 = some Di := by kernel_rfl
theorem Ej : compF Tryz.prog gt false false [] Tryz.f144 = some Bj := by kernel_rfl
theorem CY : compF Tryz.prog gt false false [] Tryz.f145 = some Aj := by kernel_rfl
theorem DP : compF Tryz.prog gt false false [] Tryz.f147 = some BZ := by kernel_rfl
theorem Be : compF Tryz.prog gt false false [] Tryz.f148 = some Ag := by kernel_rfl
theorem Gd : compF Tryz.prog gt false false [] Tryz.f151 = some D2 := by kernel_rfl
theorem Fh : compF Tryz.prog gt false false [] Tryz.f163 = some BD := by kernel_rfl
theorem CO : compF Tryz.prog gt false false [] Tryz.f165 = some Ay := by kernel_rfl
theorem E2 : compF Tryz.prog gt false false [] Tryz.f166 = some Cy := by kernel_rfl
theorem FU : compF Tryz.prog gt false false [] Tryz.f170 = some A4 := by kernel_rfl
theorem DH : compF Tryz.prog gt false false [] Tryz.f171 = some A7 := by kernel_rfl
theorem EC : compF Tryz.prog gt false false [] Tryz.f172 = some Ak := by kernel_rfl
theorem DI : compF Tryz.prog gt false false [] Tryz.f173 = some A8 := by kernel_rfl
theorem GF : compF Tryz.prog gt false false [] Tryz.f174 = some Dj := by kernel_rfl
theorem E3 : compF Tryz.prog gt false false [] Tryz.f175 = some Cz := by kernel_rfl
theorem ER : compF Tryz.prog gt false false [1000007000, 1000008000, 1000009000, 1000010000, 1000017000, 1000018000, 1000023000, 1000026000] Tryz.f176 = some Cf := by kernel_rfl
theorem Ep : compF Tryz.prog gt false false [] Tryz.f177 = some Cu := by kernel_rfl
theorem FV : compF Tryz.prog gt false false [] Tryz.f178 = some CB := by kernel_rfl
theorem Dk : compF Tryz.prog gt false false [] Tryz.f179 = some BN := by kernel_rfl
theorem E4 : compF Tryz.prog gt false false [] Tryz.f180 = some C1 := by kernel_rfl
theorem E5 : compF Tryz.prog gt false false [] Tryz.f181 = some C2 := by kernel_rfl
theorem ET : compF Tryz.prog gt false false [] Tryz.f182 = some Cg := by kernel_rfl
theorem Fn : compF Tryz.prog gt false false [] Tryz.f183 = some DS := by kernel_rfl
theorem FW : compF Tryz.prog gt false false [] Tryz.f184 = some DD := by kernel_rfl
theorem FX : compF Tryz.prog gt false false [] Tryz.f185 = some DE := by kernel_rfl
theorem Vr : tabC.All (RH Tryz.prog gt) :=
 ⟨.inl ⟨rfl, Tryz.f99, [], false, Tryz.func99, HE⟩, ⟨.inl ⟨rfl, Tryz.f62, [], false, Tryz.func62, D4⟩, ⟨.inl ⟨rfl, Tryz.f51, [], false, Tryz.func51, Bk⟩, ⟨.inl ⟨rfl, Tryz.f26, [], false, Tryz.func26, Gc⟩, ⟨.inl ⟨rfl, Tryz.f23, [], false, Tryz.func23, N0⟩, ⟨.inl ⟨rfl, Tryz.f21, [], false, Tryz.func21, Ly⟩, ⟨.inl ⟨rfl, Tryz.f18, [], false, Tryz.func18, Pm⟩, trivial, trivial⟩, trivial⟩, ⟨.inl ⟨rfl, Tryz.f24, [], false, Tryz.func24, N1⟩, trivial, trivial⟩⟩, ⟨.inl ⟨rfl, Tryz.f49, [], false, Tryz.func49, Lz⟩, ⟨.inl ⟨rfl, Tryz.f29, [2000000016], false, Tryz.func29, SQ⟩, ⟨.inl ⟨rfl, Tryz.f27, [], false, Tryz.func27, EB⟩, trivial, trivial⟩, trivial⟩, ⟨.inl ⟨rfl, Tryz.f50, [], false, Tryz.func50, Ip⟩, trivial, trivial⟩⟩⟩, ⟨.inl ⟨rfl, Tryz.f57, [1000005005, 1000006005], false, Tryz.func57, L6⟩, ⟨.inl ⟨rfl, Tryz.f54, [], false, Tryz.func54, Bp⟩, ⟨.inl ⟨rfl, Tryz.f53, [1000004003], false, Tryz.func53, Pn⟩, ⟨.inl ⟨rfl, Tryz.f52, [], false, Tryz.func52, L4⟩, trivial, trivial⟩, trivial⟩, ⟨.inl ⟨rfl, Tryz.f55, [], false, Tryz.func55, L5⟩, trivial, trivial⟩⟩, ⟨.inl ⟨rfl, Tryz.f60, [], false, Tryz.func60, Po⟩, ⟨.inl ⟨rfl, Tryz.f59, [], false, Tryz.func59, Fg⟩, ⟨.inl ⟨rfl, Tryz.f58, [], false, Tryz.func58, Je⟩, trivial, trivial⟩, trivial⟩, ⟨.inl ⟨rfl, Tryz.f61, [], false, Tryz.func61, K9⟩, trivial, trivial⟩⟩⟩⟩, ⟨.inl ⟨rfl, Tryz.f89, [], false, Tryz.func89, CW⟩, ⟨.inl ⟨rfl, Tryz.f84, [], false, Tryz.func84, Jf⟩, ⟨.inl ⟨rfl, Tryz.f65, [], false, Tryz.func65, LW⟩, ⟨.inl ⟨rfl, Tryz.f64, [], false, Tryz.func64, SR⟩, ⟨.inl ⟨rfl, Tryz.f63, [], false, Tryz.func63, Jv⟩, trivial, trivial⟩, trivial⟩, ⟨.inr ⟨_, rfl, CZ⟩, trivial, trivial⟩⟩, ⟨.inl ⟨rfl, Tryz.f87, [], false, Tryz.func87, Jh⟩, ⟨.inl ⟨rfl, Tryz.f86, [], false, Tryz.func86, Jg⟩, ⟨.inl ⟨rfl, Tryz.f85, [], false, Tryz.func85, Hc⟩, trivial, trivial⟩, trivial⟩, ⟨.inl ⟨rfl, Tryz.f88, [], false, Tryz.func88, Bz⟩, trivial, trivial⟩⟩⟩, ⟨.inl ⟨rfl, Tryz.f94, [], false, Tryz.func94, HD⟩, ⟨.inl ⟨rfl, Tryz.f92, [], false, Tryz.func92, CH⟩, ⟨.inl ⟨rfl, Tryz.f91, [], false, Tryz.func91, L7⟩, ⟨.inl ⟨rfl, Tryz.f90, [], false, Tryz.func90, FS⟩, trivial, trivial⟩, trivial⟩, ⟨.inr ⟨_, rfl, CD⟩, trivial, trivial⟩⟩, ⟨.inl ⟨rfl, Tryz.f97, [], false, Tryz.func97, Gm⟩, ⟨.inl ⟨rfl, Tryz.f96, [], false, Tryz.func96, LA⟩, ⟨.inl ⟨rfl, Tryz.f95, [], false, Tryz.func95, L8⟩, trivial, trivial⟩, trivial⟩, ⟨.inl ⟨rfl, Tryz.f98, [], false, Tryz.func98, Eo⟩, trivial, trivial⟩⟩⟩⟩⟩, ⟨.inl ⟨rfl, Tryz.f151, [], false, Tryz.func151, Gd⟩, ⟨.inl ⟨rfl, Tryz.f123, [], false, Tryz.func123, FT⟩, ⟨.inl ⟨rfl, Tryz.f118, [], false, Tryz.func118, CX⟩, ⟨.inl ⟨rfl, Tryz.f102, [], false, Tryz.func102, N2⟩, ⟨.inl ⟨rfl, Tryz.f101, [], false, Tryz.func101, SS⟩, ⟨.inl ⟨rfl, Tryz.f100, [], false, Tryz.func100, GE⟩, trivial, trivial⟩, trivial⟩, ⟨.inl ⟨rfl, Tryz.f117, [], false, Tryz.func117, LB⟩, trivial, trivial⟩⟩, ⟨.inl ⟨rfl, Tryz.f121, [], false, Tryz.func121, JP⟩, ⟨.inl ⟨rfl, Tryz.f120, [], false, Tryz.func120, C3⟩, ⟨.inl ⟨rfl, Tryz.f119, [], false, Tryz.func119, Ji⟩, trivial, trivial⟩, trivial⟩, ⟨.inl ⟨rfl, Tryz.f122, [], false, Tryz.func122, JQ⟩, trivial, trivial⟩⟩⟩, ⟨.inl ⟨rfl, Tryz.f143, [], false, Tryz.func143, Jj⟩, ⟨.inl ⟨rfl, Tryz.f138, [], false, Tryz.func138, JR⟩, ⟨.inl ⟨rfl, Tryz.f125, [], false, Tryz.func125, LX⟩, ⟨.inl ⟨rfl, Tryz.f124, [0], false, Tryz.func124, Gn⟩, trivial, trivial⟩, trivial⟩, ⟨.inl ⟨rfl, Tryz.f142, [], false, Tryz.func142, Iq⟩, trivial, trivial⟩⟩, ⟨.inl ⟨rfl, Tryz.f147, [], false, Tryz.func147, DP⟩, ⟨.inl ⟨rfl, Tryz.f145, [], false, Tryz.func145, CY⟩, ⟨.inl ⟨rfl, Tryz.f144, [], false, Tryz.func144, Ej⟩, trivial, trivial⟩, trivial⟩, ⟨.inl ⟨rfl, Tryz.f148, [], false, Tryz.func148, Be⟩, trivial, trivial⟩⟩⟩⟩, ⟨.inl ⟨rfl, Tryz.f176, [1000007000, 1000008000, 1000009000, 1000010000, 1000017000, 1000018000, 1000023000, 1000026000], false, Tryz.func176, ER⟩, ⟨.inl ⟨rfl, Tryz.f171, [], false, Tryz.func171, DH⟩, ⟨.inl ⟨rfl, Tryz.f166, [], false, Tryz.func166, E2⟩, ⟨.inl ⟨rfl, Tryz.f165, [], false, Tryz.func165, CO⟩, ⟨.inl ⟨rfl, Tryz.f163, [], false, Tryz.func163, Fh⟩, trivial, trivial⟩, trivial⟩, ⟨.inl ⟨rfl, Tryz.f170, [], false, Tryz.func170, FU⟩, trivial, trivial⟩⟩, ⟨.inl ⟨rfl, Tryz.f174, [], false, Tryz.func174, GF⟩, ⟨.inl ⟨rfl, Tryz.f173, [], false, Tryz.func173, DI⟩, ⟨.inl ⟨rfl, Tryz.f172, [], false, Tryz.func172, EC⟩, trivial, trivial⟩, trivial⟩, ⟨.inl ⟨rfl, Tryz.f175, [], false, Tryz.func175, E3⟩, trivial, trivial⟩⟩⟩, ⟨.inl ⟨rfl, Tryz.f181, [], false, Tryz.func181, E5⟩, ⟨.inl ⟨rfl, Tryz.f179, [], false, Tryz.func179, Dk⟩, ⟨.inl ⟨rfl, Tryz.f178, [], false, Tryz.func178, FV⟩, ⟨.inl ⟨rfl, Tryz.f177, [], false, Tryz.func177, Ep⟩, trivial, trivial⟩, trivial⟩, ⟨.inl ⟨rfl, Tryz.f180, [], false, Tryz.func180, E4⟩, trivial, trivial⟩⟩, ⟨.inl ⟨rfl, Tryz.f184, [], false, Tryz.func184, FW⟩, ⟨.inl ⟨rfl, Tryz.f183, [], false, Tryz.func183, Fn⟩, ⟨.inl ⟨rfl, Tryz.f182, [], false, Tryz.func182, ET⟩, trivial, trivial⟩, trivial⟩, ⟨.inl ⟨rfl, Tryz.f185, [], false, Tryz.func185, FX⟩, trivial, trivial⟩⟩⟩⟩⟩⟩
theorem Vs : ∀ (f : Nat) (fn : Fun), progC f = some fn → RH Tryz.prog gt f fn := fun f fn h => PT.all_get Vr h
end Go.Proofs.YtmnbfgfgjmmhfaaGreatDoor

namespace Go.Proofs.YtmnbfgfgjmmhfaaGreatDoor
open Go.Proofs.YtmnbfgfgjmmhfaaGreatDoor.Am
abbrev tx (L : List (List Nat)) : AV := .ws false 1 (L.map .s)
theorem AI (k : IntKind) (i : Nat) : CI (.i k (i : Int)) = some i := by simp [CI]
theorem Dn (s : St) (v : AV) : ldA s false 1 (.ep [v] 0 .shut) = some v := rfl
theorem BQ (l : List Nat) : (AV.s l).cells = [.s l] := rfl
theorem EV {i : Nat} (h : i < 2 ^ 63) : IntKind.i64.wrap (i : Int) = i := by
 have e1 : ((i : Int) % 2 ^ 64) = i := by omega
 simp only [IntKind.wrap, IntKind.signed, IntKind.bits, e1]
 rw [if_neg]
 simp; omega
theorem BO {i : Nat} (h : i + 1 < 2 ^ 63) : IntKind.i64.wrap ((i : Int) + 1) = ((i + 1 : Nat) : Int) := by
 rw [← EV h]; simp
theorem DG (n : Nat) : Int.ofNat n = (n : Int) := rfl

/-! ### A byte in a text -/
theorem SH {a c : Nat} (h : ¬ a = c) : Nat.beq a c = false := Bool.eq_false_iff.2 (by rw [Ne, Nat.beq_eq]; exact h)
theorem Mx {c : Nat} : ∀ {l : List Nat} {n : Nat}, idxB c n l < 0 ↔ c ∉ l
 | [], n => by simp [idxB]
 | a :: l, n => by
   simp only [idxB]
   by_cases h : a = c
   · subst h
     simp [Nat.beq_eq]
   · have hb : Nat.beq a c = false := SH h
     rw [hb, cond_false, Mx]
     simp; omega
theorem Nx {c : Nat} : ∀ {l : List Nat} {n : Nat}, c ∉ l → idxB c n l = -1
 | [], n, _ => rfl
 | a :: l, n, h => by
   simp only [List.mem_cons, not_or] at h
   have hb : Nat.beq a c = false := SH (Ne.symm h.1)
   simp only [idxB]
   rw [hb, cond_false, Nx h.2]
theorem ext0 (s : St) (l : List Nat) (c : Nat) (hc : c < 256) : extA s 0 [.s l, .i .u8 (c : Int)] = some (.i .i64 (idxB c 0 l), s) := by
 have h : ((IntKind.u8 = IntKind.u8) ∧ (0 : Int) ≤ (c : Int) ∧ (c : Int) < 256) := ⟨rfl, by omega, by omega⟩
 show (if _ then _ else _) = _
 rw [if_pos h]
 simp
theorem Gb (l : List Nat) (c : Nat) (hc : c < 256) (s : St) : (lim prog).call Ai [.s l, .i .u8 (c : Int)] s = some (.i .i64 (idxB c 0 l), s) := by
 refine fn_W D7 rfl rfl ?_
 simp only [Aj, go_sem, B8, Ac, Ab, Ad, Bw, KB_n, KB_x, Nat.reduceBEq, Nat.reduceAdd, Nat.reduceLT, Nat.reduceLeDiff, Nat.reduceEqDiff, reduceIte, Int.reduceEq, reduceCtorEq, ext0 _ l c hc]
 exact AM (Over.enter s) rfl rfl
theorem Jc (l : List Nat) (c : Nat) (hc : c < 256) (s : St) : (lim prog).call Cm [.s l, .i .u8 (c : Int)] s = some (.i .i64 (idxB c 0 l), s) := by
 refine fn_W Hr rfl rfl ?_
 simp only [CB, go_sem, B8, Ac, Ab, Ad, Bw, KB_n, KB_x, Nat.reduceBEq, Nat.reduceAdd, Nat.reduceLT, Nat.reduceLeDiff, Nat.reduceEqDiff, reduceIte, Int.reduceEq, reduceCtorEq, Gb l c hc]
 exact AM (Over.enter s) rfl rfl
theorem SI : CI (.i .i64 0) = some 0 := rfl
theorem SJ (l : List Nat) (c : Nat) (hc : c < 256) (s : St) : (lim prog).call Bu [.s l, .s [c]] s = some (.i .i64 (idxB c 0 l), s) := by
 refine fn_W E0 rfl rfl ?_
 have h1 : (((List.length [c] : Nat) : Int) = 0) = False := by simp
 have h2 : (((List.length [c] : Nat) : Int) = 1) = True := by simp
 simp only [Ax, go_sem, B8, Ac, Ab, Ad, Bw, KB_n, KB_x, Nat.reduceBEq, Nat.reduceAdd, Nat.reduceLT, Nat.reduceLeDiff, Nat.reduceEqDiff, reduceIte, Int.reduceEq, reduceCtorEq, DG, h1, SI, h2]
 have hk : KR s [CT.id] (.i .i64 (idxB c 0 l)) (some ([.i .i64 (idxB c 0 l)], s.enter)) := AM (Over.enter s) rfl rfl
 by_cases hl : [c] = l
 · subst hl
   simp only [go_sem, B8, Ac, Ab, Ad, Bw, KB_n, KB_x, Nat.reduceBEq, Nat.reduceAdd, Nat.reduceLT, Nat.reduceLeDiff, Nat.reduceEqDiff, reduceIte, Int.reduceEq, reduceCtorEq, DG, h1, SI, h2, eq_self, Gb _ c hc]
   exact AM (Over.enter s) rfl (by simp [Ca, wkZ, wk, idxB])
 · have hl' : ([c] = l) = False := by simp [hl]
   simp only [go_sem, B8, Ac, Ab, Ad, Bw, KB_n, KB_x, Nat.reduceBEq, Nat.reduceAdd, Nat.reduceLT, Nat.reduceLeDiff, Nat.reduceEqDiff, reduceIte, Int.reduceEq, reduceCtorEq, DG, h1, SI, h2, hl', Gb _ c hc]
   exact hk
theorem Tl (l : List Nat) (c : Nat) (hc : c < 256) (s : St) : (lim prog).call FM [.s l, .s [c]] s = some (.i .i64 (idxB c 0 l), s) := by
 refine fn_W Ku rfl rfl ?_
 simp only [DB, go_sem, B8, Ac, Ab, Ad, Bw, KB_n, KB_x, Nat.reduceBEq, Nat.reduceAdd, Nat.reduceLT, Nat.reduceLeDiff, Nat.reduceEqDiff, reduceIte, Int.reduceEq, reduceCtorEq, SJ l c hc]
 exact AM (Over.enter s) rfl rfl

theorem u8N {n : Nat} (h : n < 256) : (UInt8.ofNat n).toNat = n := by simp [UInt8.toNat_ofNat']; omega
theorem Ny (r : Int) (s : St) : (lim prog).call Cd [.i .i32 r] s = some (.b (Utf8.valid r), s) := by
 refine fn_W GB rfl rfl ?_
 simp only [BN, go_sem, B8, Ac, Ab, Ad, Bw, KB_n, KB_x, Nat.reduceBEq, Nat.reduceAdd, Nat.reduceLT, Nat.reduceLeDiff, Nat.reduceEqDiff, reduceIte, Int.reduceEq, reduceCtorEq]
 by_cases h0 : 0 ≤ r
 · by_cases h1 : r < 55296
   · simp only [go_sem, B8, Ac, Ab, Ad, Bw, KB_n, KB_x, Nat.reduceBEq, Nat.reduceAdd, Nat.reduceLT, Nat.reduceLeDiff, Nat.reduceEqDiff, reduceIte, Int.reduceEq, reduceCtorEq, h0, h1]
     exact AM (Over.enter s) rfl (by simp [Ca, wkZ, wk, Utf8.valid, h0, h1])
   · by_cases h2 : 57343 < r
     · by_cases h3 : r ≤ 1114111
       · simp only [go_sem, B8, Ac, Ab, Ad, Bw, KB_n, KB_x, Nat.reduceBEq, Nat.reduceAdd, Nat.reduceLT, Nat.reduceLeDiff, Nat.reduceEqDiff, reduceIte, Int.reduceEq, reduceCtorEq, h0, h1, h2, h3]
         refine AM (Over.enter s) rfl ?_
         have h4 : 57344 ≤ r := by omega
         simp [Ca, wkZ, wk, Utf8.valid, h3, h4]
       · simp only [go_sem, B8, Ac, Ab, Ad, Bw, KB_n, KB_x, Nat.reduceBEq, Nat.reduceAdd, Nat.reduceLT, Nat.reduceLeDiff, Nat.reduceEqDiff, reduceIte, Int.reduceEq, reduceCtorEq, h0, h1, h2, h3]
         refine AM (Over.enter s) rfl ?_
         simp [Ca, wkZ, wk, Utf8.valid, h1, h3]
     · simp only [go_sem, B8, Ac, Ab, Ad, Bw, KB_n, KB_x, Nat.reduceBEq, Nat.reduceAdd, Nat.reduceLT, Nat.reduceLeDiff, Nat.reduceEqDiff, reduceIte, Int.reduceEq, reduceCtorEq, h0, h1, h2]
       refine AM (Over.enter s) rfl ?_
       have h4 : ¬ 57344 ≤ r := by omega
       simp [Ca, wkZ, wk, Utf8.valid, h1, h4]
 · have h2 : ¬ 57343 < r := by omega
   simp only [go_sem, B8, Ac, Ab, Ad, Bw, KB_n, KB_x, Nat.reduceBEq, Nat.reduceAdd, Nat.reduceLT, Nat.reduceLeDiff, Nat.reduceEqDiff, reduceIte, Int.reduceEq, reduceCtorEq, h0, h2]
   refine AM (Over.enter s) rfl ?_
   have h4 : ¬ 57344 ≤ r := by omega
   simp [Ca, wkZ, wk, Utf8.valid, h0, h4]
abbrev K3 : List Nat := [47, 0, 10]
theorem Nz (i : Nat) : CI (.i .i64 (i : Int)) = some i := AI _ i
theorem w1 : IntKind.i64.wrap (2 - 1) = 1 := rfl
theorem w2 : IntKind.i64.wrap (3 - 1) = 2 := rfl
theorem w3 : IntKind.i64.wrap (4 - 1) = 3 := rfl
theorem w4 : IntKind.i64.wrap (1 + 1) = 2 := rfl
theorem w5 : IntKind.i64.wrap (2 + 1) = 3 := rfl

abbrev bs (B : List Bool) : List AV := B.map AV.b
section
variable {s : St} {id T n : Nat}
theorem SK (s : St) : ∀ B : List Bool, pubL s (bs B) = some (bs B, s)
 | [] => rfl
 | b :: B => by
   simp only [bs, List.map_cons, pubL, RC]
   rw [SK s B]
theorem SL (s : St) : ∀ B : List Bool, frzL s (bs B) = some (bs B, s)
 | [] => rfl
 | b :: B => by
   simp only [bs, List.map_cons, frzL, frz, RC]
   rw [SL s B]
theorem SM : ∀ B : List Bool, ones (bs B) = true
 | [] => rfl
 | b :: B => by
   simp only [bs, List.map_cons, ones]
   exact SM B
theorem Of : ∀ B : List Bool, AV.refs.go (bs B) = false
 | [] => rfl
 | b :: B => by
   simp only [bs, List.map_cons, AV.refs.go, AV.refs, Bool.false_or]
   exact Of B
theorem bs_wk : ∀ (n : Nat) (B : List Bool), wkZ (List.replicate n .id) (bs B) = bs B
 | 0, B => by simp [wkZ]
 | n + 1, [] => by simp [wkZ]
 | n + 1, b :: B => by
   have := bs_wk n B
   simp only [bs, List.map_cons, List.replicate_succ, wkZ, wk] at this ⊢
   rw [this]
theorem bs_ld {B : List Bool} (h : s.box? id = some (.cells T (bs B))) (hn : B.length = n) : ldA s true n (.p id 0) = some (.agg (bs B)) := by
 have : cut (bs B) 0 n = some (bs B) := by
  have e : (bs B).take n = bs B := List.take_of_length_le (by simp; omega)
  have e2 : (bs B).length = n := by simpa using hn
  simp only [cut, List.drop_zero, e, e2, if_true]
 simp only [ldA, St.cells?, h, this, scal]
theorem bs_ld1 {B : List Bool} {i : Nat} {b : Bool} (h : s.box? id = some (.cells T (bs B))) (hi : B[i]? = some b) : ldA s false 1 (.p id i) = some (.b b) := by
 exact F0 h (by simp [hi])
theorem bs_st {B B' : List Bool} (h : s.box? id = some (.cells T (bs B'))) (hn : B.length = n) (hn' : B'.length = n) : stA s n (.p id 0) (.agg (bs B)) = some (s.setBox id (.cells T (bs B))) := by
 have h1 : (AV.agg (bs B)).cells = bs B := rfl
 have h2 : (bs B).length = n := by simpa using hn
 have h3 : over (bs B') 0 (bs B) = some (bs B) := by
  unfold over
  rw [if_pos (by simp; omega)]
  simp [hn, hn']
 simp only [stA, h, h1, h2, SM, and_self, if_true, h3, esc]
 have h4 : (AV.agg (bs B)).refs = false := by simp only [AV.refs]; exact Of B
 rw [h4]
 rfl
theorem bs_st1 {B : List Bool} {i : Nat} (h : s.box? id = some (.cells T (bs B))) (hi : i < B.length) : stA s 1 (.p id i) (.b true) = some (s.setBox id (.cells T (bs (B.set i true)))) := by
 rw [PI h rfl rfl (by simpa using hi)]
 have : (bs B).set i (.b true) = bs (B.set i true) := by simp [bs, List.map_set]
 rw [this]
 rfl
end
def F256 : List Bool := List.replicate 256 false
abbrev Z256 : List AV := bs F256
theorem len0 : F256.length = 256 := by simp [F256]
theorem Vo : Ak.body =
 (.seq (.reg [⟨(some 2), .alloc 184 Z256, none⟩,
  ⟨(some 3), .mv (.c (.b false)), none⟩])
 (.seq (.seq (.reg [⟨(some 4), .mv (.c (.i .i64 0)), none⟩])
 (.blk 0 (.loop (.seq (.seq (.reg [⟨(some 6), .mv (.t 4), none⟩,
     ⟨(some 7), .mv (.t 0), none⟩,
     ⟨(some 8), .len 0 (.t 7), none⟩,
     ⟨(some 9), .bin .lss (.t 6) (.t 8), none⟩])
  (.cond (.t 9)
   .skip
   (.exit 0)))
  (.seq (.blk 1 (.seq (.reg [⟨(some 12), .mv (.t 0), none⟩,
     ⟨(some 13), .mv (.t 4), none⟩,
     ⟨(some 14), .ixS (.t 12) (.t 13), none⟩,
     ⟨(some 5), .mv (.t 14), none⟩])
   (.seq (.seq (.reg [⟨(some 15), .mv (.t 5), none⟩,
    ⟨(some 16), .bin .geq (.t 15) (.c (.i .u8 128)), none⟩])
   (.cond (.t 16)
    (.seq (.reg [⟨(some 17), .ld true 256 (.t 2), none⟩,
     ⟨none, .st 256 (.t 2) (.t 17), none⟩,
     ⟨(some 3), .mv (.c (.b false)), none⟩])
    .ret)
    .skip))
   (.reg [⟨(some 18), .mv (.t 5), none⟩,
    ⟨(some 19), .iaA 256 1 (.t 2) (.t 18), none⟩,
    ⟨none, .st 1 (.t 19) (.c (.b true)), none⟩]))))
  (.reg [⟨(some 10), .mv (.t 4), none⟩,
   ⟨(some 11), .bin .add (.t 10) (.c (.i .i64 1)), none⟩,
   ⟨(some 4), .mv (.t 11), none⟩]))))))
 (.seq (.reg [⟨(some 20), .ld true 256 (.t 2), none⟩,
  ⟨none, .st 256 (.t 2) (.t 20), none⟩,
  ⟨(some 3), .mv (.c (.b true)), none⟩])
 .ret))) := by rfl
theorem Vp : BD.body =
 (.seq (.reg [⟨(some 4), .mv (.c (.i .i64 0)), none⟩])
 (.seq (.seq (.reg [⟨(some 11), .mv (.t 1), none⟩,
  ⟨(some 12), .bin .eql (.t 11) (.c (.s [])), none⟩])
 (.cond (.t 12)
  (.seq (.reg [⟨(some 4), .mv (.c (.i .i64 (-1))), none⟩])
  .ret)
  .skip))
 (.seq (.seq (.reg [⟨(some 13), .mv (.t 1), none⟩,
  ⟨(some 14), .len 0 (.t 13), none⟩,
  ⟨(some 15), .bin .eql (.t 14) (.c (.i .i64 1)), none⟩])
 (.cond (.t 15)
  (.seq (.reg [⟨(some 16), .mv (.t 1), none⟩,
   ⟨(some 17), .ixS (.t 16) (.c (.i .i64 0)), none⟩,
   ⟨(some 18), .cvI .i32 (.t 17), none⟩,
   ⟨(some 5), .mv (.t 18), none⟩])
  (.seq (.seq (.reg [⟨(some 19), .mv (.t 5), none⟩,
   ⟨(some 20), .bin .geq (.t 19) (.c (.i .i32 128)), none⟩])
  (.cond (.t 20)
   (.reg [⟨(some 5), .mv (.c (.i .i32 65533)), none⟩])
   .skip))
  (.seq (.reg [⟨(some 21), .mv (.t 0), none⟩,
   ⟨(some 22), .mv (.t 5), none⟩,
   ⟨(some 23), .call Bc [(.t 21), (.t 22)], none⟩,
   ⟨(some 4), .mv (.t 23), none⟩])
  .ret)))
  .skip))
 (.seq (.seq (.reg [⟨(some 24), .mv (.t 0), none⟩,
  ⟨(some 25), .len 0 (.t 24), none⟩,
  ⟨(some 26), .call BT [(.t 25)], none⟩])
 (.cond (.t 26)
  (.seq (.reg [⟨(some 28), .mv (.t 1), none⟩,
   ⟨(some 29), .call CF [(.t 28)], none⟩,
   ⟨(some 27), .mv (.t 29), none⟩,
   ⟨(some 30), .ext (.t 27) 0, none⟩,
   ⟨(some 31), .ext (.t 27) 1, none⟩,
   ⟨(some 6), .alloc 184 Z256, none⟩,
   ⟨none, .st 256 (.t 6) (.t 30), none⟩,
   ⟨(some 7), .mv (.t 31), none⟩])
  (.seq (.reg [⟨(some 32), .mv (.t 7), none⟩])
  (.cond (.t 32)
   (.seq (.seq (.reg [⟨(some 8), .mv (.c (.i .i64 0)), none⟩])
   (.blk 0 (.loop (.seq (.seq (.reg [⟨(some 33), .mv (.t 8), none⟩,
       ⟨(some 34), .mv (.t 0), none⟩,
       ⟨(some 35), .len 0 (.t 34), none⟩,
       ⟨(some 36), .bin .lss (.t 33) (.t 35), none⟩])
    (.cond (.t 36)
     .skip
     (.exit 0)))
    (.seq (.blk 1 (.seq (.reg [⟨(some 39), .mv (.t 0), none⟩,
       ⟨(some 40), .mv (.t 8), none⟩,
       ⟨(some 41), .ixS (.t 39) (.t 40), none⟩,
       ⟨(some 42), .call BU [(.t 6), (.t 41)], none⟩])
     (.cond (.t 42)
      (.seq (.reg [⟨(some 43), .mv (.t 8), none⟩,
       ⟨(some 4), .mv (.t 43), none⟩])
      .ret)
      .skip)))
    (.reg [⟨(some 37), .mv (.t 8), none⟩,
     ⟨(some 38), .bin .add (.t 37) (.c (.i .i64 1)), none⟩,
     ⟨(some 8), .mv (.t 38), none⟩]))))))
   (.seq (.reg [⟨(some 4), .mv (.c (.i .i64 (-1))), none⟩])
   .ret))
   .skip)))
  .skip))
 (.seq (.seq (.reg [⟨(some 44), .mv (.t 0), none⟩,
  ⟨(some 45), .siter (.t 44), none⟩])
 (.blk 2 (.loop (.seq (.reg [⟨(some 46), .snext (.t 45), none⟩,
     ⟨(some 47), .ext (.t 46) 0, none⟩])
  (.seq (.cond (.t 47)
   .skip
   (.exit 2))
  (.blk 3 (.seq (.reg [⟨(some 48), .ext (.t 46) 1, none⟩,
     ⟨(some 49), .ext (.t 46) 2, none⟩,
     ⟨(some 9), .mv (.t 48), none⟩,
     ⟨(some 10), .mv (.t 49), none⟩])
   (.seq (.reg [⟨(some 50), .mv (.t 1), none⟩,
    ⟨(some 51), .mv (.t 10), none⟩,
    ⟨(some 52), .call Bc [(.t 50), (.t 51)], none⟩,
    ⟨(some 53), .bin .geq (.t 52) (.c (.i .i64 0)), none⟩])
   (.cond (.t 53)
    (.seq (.reg [⟨(some 54), .mv (.t 9), none⟩,
     ⟨(some 4), .mv (.t 54), none⟩])
    .ret)
    .skip)))))))))
 (.seq (.reg [⟨(some 4), .mv (.c (.i .i64 (-1))), none⟩])
 .ret)))))) := by rfl
theorem Vq : Ak.cout = [.agg (List.replicate 256 .id), .id] := by rfl
theorem Pl (n : Nat) : CI (.i .u8 (n : Int)) = some n := AI _ n
theorem Og {s : St} {id T : Nat} {B : List Bool} (h : s.box? id = some (.cells T (bs B))) {c : Nat} (hc : c < 256) {b : Bool} (hb : B[c]? = some b) : (lim prog).call BU [.p id 0, .i .u8 (c : Int)] s = some (.b b, s) := by
 refine fn_W FR rfl rfl ?_
 have hl : ldA s.enter false 1 (.p id c) = some (.b b) := bs_ld1 (s := s.enter) h hb
 have hlt : (c < 256) = True := by simp [hc]
 simp only [A8, go_sem, B8, Ac, Ab, Ad, Bw, KB_n, KB_x, Nat.reduceBEq, Nat.reduceAdd, Nat.reduceLT, Nat.reduceLeDiff, Nat.reduceEqDiff, reduceIte, Int.reduceEq, reduceCtorEq, Pl, hlt, Nat.mul_one, Nat.zero_add, hl]
 exact AM (Over.enter s) rfl rfl
end Go.Proofs.YtmnbfgfgjmmhfaaGreatDoor

namespace Go.Proofs.YtmnbfgfgjmmhfaaGreatDoor
open Go.Proofs.YtmnbfgfgjmmhfaaGreatDoor.Am
theorem Tm (s : ByteArray) (pos : Nat) (h : pos < s.size) (ha : 128 ≤ (s.get! (pos + 0)).toNat) : pos + (Utf8.decode s pos).2 ≤ s.size ∧ ∀ k, k < (Utf8.decode s pos).2 → 128 ≤ (s.get! (pos + k)).toNat := by
 have hn : ¬ (s.get! (pos + 0)).toNat < 128 := by omega
 simp only [Utf8.decode, hn, if_false]
 split
 · rename_i h1
   simp only [Bool.and_eq_true, beq_iff_eq, decide_eq_true_eq] at h1
   split
   · refine ⟨by simp only; omega, fun k hk => ?_⟩
     have : k = 0 ∨ k = 1 := by simp only at hk; omega
     rcases this with rfl | rfl <;> omega
   · refine ⟨by simp only; omega, fun k hk => ?_⟩
     have : k = 0 := by simp only at hk; omega
     subst this; omega
 · split
   · rename_i h1
     simp only [Bool.and_eq_true, beq_iff_eq, decide_eq_true_eq] at h1
     split
     · refine ⟨by simp only; omega, fun k hk => ?_⟩
       have : k = 0 ∨ k = 1 ∨ k = 2 := by simp only at hk; omega
       rcases this with rfl | rfl | rfl <;> omega
     · refine ⟨by simp only; omega, fun k hk => ?_⟩
       have : k = 0 := by simp only at hk; omega
       subst this; omega
   · split
     · rename_i h1
       simp only [Bool.and_eq_true, beq_iff_eq, decide_eq_true_eq] at h1
       split
       · refine ⟨by simp only; omega, fun k hk => ?_⟩
         have : k = 0 ∨ k = 1 ∨ k = 2 ∨ k = 3 := by simp only at hk; omega
         rcases this with rfl | rfl | rfl | rfl <;> omega
       · refine ⟨by simp only; omega, fun k hk => ?_⟩
         have : k = 0 := by simp only at hk; omega
         subst this; omega
     · refine ⟨by simp only; omega, fun k hk => ?_⟩
       have : k = 0 := by simp only at hk; omega
       subst this; omega
theorem bytes_get {l : List Nat} (hl : ∀ n ∈ l, n < 256) {i : Nat} (h : i < l.length) : ((⟨(l.map UInt8.ofNat).toArray⟩ : ByteArray).get! i).toNat = l[i] := by
 have h1 : i < (l.map UInt8.ofNat).toArray.size := by simpa using h
 have : (⟨(l.map UInt8.ofNat).toArray⟩ : ByteArray).get! i = UInt8.ofNat l[i] := by
  show (l.map UInt8.ofNat).toArray[i]! = _
  rw [getElem!_pos _ i h1]
  simp
 rw [this, u8N (hl _ (List.getElem_mem h))]
theorem bytes_size (l : List Nat) : (⟨(l.map UInt8.ofNat).toArray⟩ : ByteArray).size = l.length := by
 show (l.map UInt8.ofNat).toArray.size = _
 simp
theorem Tn {l : List Nat} (hl : ∀ n ∈ l, n < 256) {pos : Nat} (h : pos < l.length) (hc : 128 ≤ l[pos]) :
    ∃ r w, Utf8.decode ⟨(l.map UInt8.ofNat).toArray⟩ pos = (r, w) ∧ 128 ≤ r ∧ r ≤ 2147483647 ∧ 1 ≤ w ∧ pos + w ≤ l.length ∧ ∀ k (hk : k < l.length), pos ≤ k → k < pos + w → 128 ≤ l[k] := by
 have hs := bytes_size l
 have hg := bytes_get hl h
 have hps : pos < (⟨(l.map UInt8.ofNat).toArray⟩ : ByteArray).size := by rw [hs]; exact h
 have hge := get_at (⟨(l.map UInt8.ofNat).toArray⟩ : ByteArray) pos hps
 have ha : 128 ≤ ((⟨(l.map UInt8.ofNat).toArray⟩ : ByteArray).get! (pos + 0)).toNat := by rw [Nat.add_zero, hg]; exact hc
 have h1 := decode_high (⟨(l.map UInt8.ofNat).toArray⟩ : ByteArray) pos hps (by rw [← hge]; exact ha)
 have h2 := decode_le (⟨(l.map UInt8.ofNat).toArray⟩ : ByteArray) pos
 have h3 := Tm (⟨(l.map UInt8.ofNat).toArray⟩ : ByteArray) pos hps ha
 rw [hs] at h3
 obtain ⟨⟨r, w⟩, hrw⟩ : ∃ x, Utf8.decode (⟨(l.map UInt8.ofNat).toArray⟩ : ByteArray) pos = x := ⟨_, rfl⟩
 rw [hrw] at h1 h2 h3
 simp only at h1 h2 h3
 refine ⟨r, w, hrw, h1.1, h2, h1.2, h3.1, fun k hk h4 h5 => ?_⟩
 have h6 := h3.2 (k - pos) (by omega)
 rw [show pos + (k - pos) = k by omega, bytes_get hl hk] at h6
 exact h6
theorem Jd (n : Int) (s : St) : (lim prog).call BT [.i .i64 n] s = some (.b (decide (8 < n)), s) := by
 refine fn_W FQ rfl rfl ?_
 simp only [A7, go_sem, B8, Ac, Ab, Ad, Bw, KB_n, KB_x, Nat.reduceBEq, Nat.reduceAdd, Nat.reduceLT, Nat.reduceLeDiff, Nat.reduceEqDiff, reduceIte, Int.reduceEq, reduceCtorEq]
 exact AM (Over.enter s) rfl rfl

set_option maxHeartbeats 4000000
attribute [local irreducible] W WO WE WQ WD Tr.get Tr.set
structure AsK (K : List Nat) : Prop where
 lt : ∀ c ∈ K, c < 128
 four : 4 ≤ K.length
 len : K.length < 2 ^ 30
def Nu (K : List Nat) (r : Int) : Int := if r < 128 then idxB r.toNat 0 K else -1
theorem SF {r : Int} (h0 : 128 ≤ r) (hv : Utf8.valid r = true) : ∃ l b, encN r = l ++ [b] ∧ 1 ≤ l.length ∧ l.length ≤ 3 ∧ 128 ≤ b ∧ b < 256 := by
 have hr : r ≤ 1114111 := by
  simp only [Utf8.valid, Bool.or_eq_true, Bool.and_eq_true, decide_eq_true_eq] at hv
  omega
 obtain ⟨n, rfl⟩ : ∃ n : Nat, r = n := ⟨r.toNat, by omega⟩
 simp only [encN, Utf8.encode, hv, if_true, Int.toNat_natCast]
 by_cases h1 : n < 128
 · omega
 rw [if_neg h1]
 have key : ∀ m : Nat, 128 ≤ m → m < 256 → 128 ≤ (UInt8.ofNat m).toNat ∧ (UInt8.ofNat m).toNat < 256 := fun m a b => by rw [u8N b]; exact ⟨a, b⟩
 by_cases h2 : n < 2048
 · rw [if_pos h2]
   exact ⟨[_], _, rfl, by simp, by simp, key _ (by omega) (by omega)⟩
 rw [if_neg h2]
 by_cases h3 : n < 65536
 · rw [if_pos h3]
   exact ⟨[_, _], _, rfl, by simp, by simp, key _ (by omega) (by omega)⟩
 rw [if_neg h3]
 exact ⟨[_, _, _], _, rfl, by simp, by simp, key _ (by omega) (by omega)⟩
theorem Io {K : List Nat} (hK : AsK K) (r : Int) (h0 : 0 ≤ r) (h1 : r ≤ 2147483647) (s : St) : (lim prog).call Bc [.s K, .i .i32 r] s = some (.i .i64 (Nu K r), s) := by
 refine fn_W Hq rfl rfl ?_
 have h0' : ((0 : Int) ≤ r) = True := by simp [h0]
 have hkl := hK.len
 have hk4 := hK.four
 by_cases hr : r < 128
 · have hr' : (r < 128) = True := by simp [hr]
   obtain ⟨n, rfl⟩ : ∃ n : Nat, r = n := ⟨r.toNat, by omega⟩
   have hw : IntKind.u8.wrap (n : Int) = (n : Int) := by
    have e : (n : Int) % 2 ^ 8 = n := by omega
    simp only [IntKind.wrap, IntKind.signed, IntKind.bits, e]
    rfl
   simp only [A4, go_sem, AE, AA, AC, AB, KB_n, KB_x, Nat.reduceBEq, Nat.reduceAdd, Nat.reduceLT, Nat.reduceLeDiff, Nat.reduceEqDiff, reduceIte, Int.reduceEq, reduceCtorEq, h0', hr', hw, Jc K n (by omega)]
   exact AM (Over.enter s) rfl (by simp [Ca, wkZ, wk, Nu, hr])
 · have hr' : (r < 128) = False := by simp [hr]
   have hP : Nu K r = -1 := by unfold Nu; rw [if_neg hr]
   by_cases he : r = 65533
   · have he' : (r = 65533) = True := by simp [he]
     simp only [A4, go_sem, AE, AA, AC, AB, KB_n, KB_x, Nat.reduceBEq, Nat.reduceAdd, Nat.reduceLT, Nat.reduceLeDiff, Nat.reduceEqDiff, reduceIte, Int.reduceEq, reduceCtorEq, h0', hr', he']
     refine DN (fun n e q => ∃ p : Nat, p + n = K.length ∧ q = s.enter.new (.siter K p) ∧ e.get 175 = .p s.enter.nb 0) ?_ K.length _ _ ?_
     · rintro n e q ⟨p, hp, rfl, g⟩
       have hs : ∀ p', (s.enter.new (.siter K p)).setBox s.enter.nb (.siter K p') = s.enter.new (.siter K p') := fun p' => Kj _ _ _
       have hov := fun p => ((Over.enter s).new (.siter K p))
       by_cases hlt : p < K.length
       · have hget : K[p]? = some K[p] := List.getElem?_eq_getElem hlt
         have h128 := hK.lt K[p] (List.getElem_mem hlt)
         have h128' : (K[p] < 128) = True := by simp [h128]
         have hne : ((Int.ofNat K[p] : Int) = 65533) = False := by simp only [eq_iff_iff, iff_false]; show ¬ ((K[p] : Nat) : Int) = 65533; omega
         have hne2 : (((K[p] : Nat) : Int) = 65533) = False := eq_false (by omega)
         simp only [go_sem, AE, AA, AC, AB, KB_n, KB_x, Nat.reduceBEq, Nat.reduceAdd, Nat.reduceLT, Nat.reduceLeDiff, Nat.reduceEqDiff, reduceIte, Int.reduceEq, reduceCtorEq, g, hget, h128', hne, hne2, hs]
         exact ⟨n - 1, by omega, p + 1, by omega, rfl⟩
       · have hget : K[p]? = none := List.getElem?_eq_none (by omega)
         simp only [go_sem, AE, AA, AC, AB, KB_n, KB_x, Nat.reduceBEq, Nat.reduceAdd, Nat.reduceLT, Nat.reduceLeDiff, Nat.reduceEqDiff, reduceIte, Int.reduceEq, reduceCtorEq, g, hget]
         exact AM (hov p) rfl (by rw [hP]; rfl)
     · simp only [go_sem, AE, AA, AC, AB, KB_n, KB_x, Nat.reduceBEq, Nat.reduceAdd, Nat.reduceLT, Nat.reduceLeDiff, Nat.reduceEqDiff, reduceIte, Int.reduceEq, reduceCtorEq]
       exact ⟨0, by omega, rfl⟩
   · have he' : (r = 65533) = False := by simp [he]
     have hv := Ny r
     cases hvr : Utf8.valid r with
     | false =>
       rw [hvr] at hv
       simp only [A4, go_sem, AE, AA, AC, AB, KB_n, KB_x, Nat.reduceBEq, Nat.reduceAdd, Nat.reduceLT, Nat.reduceLeDiff, Nat.reduceEqDiff, reduceIte, Int.reduceEq, reduceCtorEq, h0', hr', he', hv]
       exact AM (Over.enter s) rfl (by rw [hP]; rfl)
     | true =>
       rw [hvr] at hv
       obtain ⟨l, b, h2, hl1, hl3, hb1, hb2⟩ := SF (show 128 ≤ r by omega) hvr
       have hlen : (l ++ [b]).length = l.length + 1 := by simp
       have hsub : IntKind.i64.wrap (((l.length + 1 : Nat) : Int) - 1) = (l.length : Nat) := by
        rw [show ((l.length + 1 : Nat) : Int) - 1 = (l.length : Nat) by omega]; exact EV (by omega)
       simp only [A4, go_sem, AE, AA, AC, AB, KB_n, KB_x, Nat.reduceBEq, Nat.reduceAdd, Nat.reduceLT, Nat.reduceLeDiff, Nat.reduceEqDiff, reduceIte, Int.reduceEq, reduceCtorEq, h0', hr', he', hv, h2, hlen, hsub]
       refine DN (fun n e q => q = s.enter ∧ e.get 0 = .s K ∧ e.get 7 = .s (l ++ [b]) ∧ e.get 8 = .i .i64 (l.length : Nat) ∧ e.get 9 = .i .i64 (l.length : Nat)) ?_ 0 _ _ ?_
       · rintro n e q ⟨rfl, g0, g7, g8, g9⟩
         have c1 : ((l.length : Int) < (K.length : Int)) = True := eq_true (by omega)
         have hlt : l.length < K.length := by omega
         have hget : K[l.length]? = some K[l.length] := List.getElem?_eq_getElem hlt
         have h128 := hK.lt K[l.length] (List.getElem_mem hlt)
         have hgb : (l ++ [b])[l.length]? = some b := by simp
         have c2 : (((K[l.length] : Nat) : Int) ≠ (b : Int)) = True := by simp only [ne_eq, eq_iff_iff, iff_true]; omega
         have hix := Jc (K.drop (l.length + 1)) b hb2 s.enter
         have hmiss : idxB b 0 (K.drop (l.length + 1)) = -1 := Nx fun hm => by
          have := hK.lt b (List.mem_of_mem_drop hm)
          omega
         rw [hmiss] at hix
         have w4 : IntKind.i64.wrap ((l.length : Int) + 1) = ((l.length + 1 : Nat) : Int) := BO (by omega)
         have hb : Bl K.length (some (.i .i64 ((l.length + 1 : Nat) : Int))) none = some (l.length + 1, K.length) := by
          simp only [Bl, AI]
          rw [if_pos ⟨by omega, Nat.le_refl _⟩]
         have hd : ((K.drop (l.length + 1)).take (K.length - (l.length + 1))) = K.drop (l.length + 1) := List.take_of_length_le (by simp)
         have hm1 : ((-1 : Int) < 0) = True := by simp
         simp only [go_sem, AE, AA, AC, AB, KB_n, KB_x, Nat.reduceBEq, Nat.reduceAdd, Nat.reduceLT, Nat.reduceLeDiff, Nat.reduceEqDiff, reduceIte, Int.reduceEq, reduceCtorEq, g0, g7, g8, g9, c1, AI, hget, hgb, c2, w4, hb, hd, hix, hm1]
         exact AM (Over.enter s) rfl (by rw [hP]; rfl)
       · simp only [go_sem, AE, AA, AC, AB, KB_n, KB_x, Nat.reduceBEq, Nat.reduceAdd, Nat.reduceLT, Nat.reduceLeDiff, Nat.reduceEqDiff, reduceIte, Int.reduceEq, reduceCtorEq, and_self]
def BK (K : List Nat) : List Bool := K.foldl (fun B c => B.set c true) F256
theorem Pj (K : List Nat) (B : List Bool) : (K.foldl (fun B c => B.set c true) B).length = B.length := by
 induction K generalizing B with
 | nil => rfl
 | cons c K ih => rw [List.foldl_cons, ih]; simp
theorem fold_get (K : List Nat) : ∀ (B : List Bool) {c : Nat}, c < B.length → (K.foldl (fun B c => B.set c true) B)[c]? = some (decide (c ∈ K) || B[c]?.getD false) := by
 induction K with
 | nil => intro B c h; simp [List.getElem?_eq_getElem h]
 | cons a K ih =>
   intro B c h
   rw [List.foldl_cons, ih (B.set a true) (by simpa using h), List.getElem?_set]
   by_cases e : a = c
   · subst e; simp [h]
   · have : ¬ c = a := fun hh => e hh.symm
     simp [e, this]
theorem Nv (K : List Nat) : (BK K).length = 256 := by rw [BK, Pj, len0]
theorem bk_get (K : List Nat) {c : Nat} (h : c < 256) : (BK K)[c]? = some (decide (c ∈ K)) := by
 rw [BK, fold_get K F256 (by rw [len0]; exact h)]
 have : F256[c]?.getD false = false := by
  show (List.replicate 256 false)[c]?.getD false = false
  rw [List.getElem?_replicate]
  split <;> rfl
 rw [this, Bool.or_false]
theorem mkK_ok {K : List Nat} (hK : AsK K) (s : St) (hw : Wf s) : (lim prog).call CF [.s K] s = some (.tup [.agg (bs (BK K)), .b true], s) := by
 refine fn_W Gj rfl rfl ?_
 have hcin : Ak.cin = [.id] := rfl
 have hz0 : wkZ [.id] [AV.s K] = [.s K] := by simp [wkZ, wk]
 rw [Vo, Vq, hcin, hz0]
 have hkl := hK.len
 have hnb : s.enter.nb = s.nb := rfl
 have hset : ∀ B B', (s.enter.new (.cells 184 (bs B))).setBox s.nb (.cells 184 (bs B')) = s.enter.new (.cells 184 (bs B')) := fun B B' => Kj s.enter _ _
 have hb : ∀ B, (s.enter.new (.cells 184 (bs B))).box? s.nb = some (.cells 184 (bs B)) := fun B => BJ s.enter _
 have la := bs_ld (hb (BK K)) (Nv K)
 have st := bs_st (hb (BK K)) (Nv K) (Nv K)
 rw [hset] at st
 have hres : Ak.res = [(2, some (true, 256)), (3, none)] := rfl
 have hpl := SK (s.enter.new (.cells 184 (bs (BK K)))) (BK K)
 have hfl := SL (s.enter.new (.cells 184 (bs (BK K)))) (BK K)
 have ov : Over s (s.enter.new (.cells 184 (bs (BK K)))) := (Over.enter s).new _
 rw [hres]
 simp only [go_sem, B8, Ac, Ab, Ad, Bw, KB_n, KB_x, Nat.reduceBEq, Nat.reduceAdd, Nat.reduceLT, Nat.reduceLeDiff, Nat.reduceEqDiff, reduceIte, Int.reduceEq, reduceCtorEq, hnb]
 refine DN (fun n e q => e.get 0 = .s K ∧ e.get 2 = .p s.nb 0 ∧ ∃ p : Nat, p + n = K.length ∧ e.get 4 = .i .i64 p ∧ q = s.enter.new (.cells 184 (bs ((K.take p).foldl (fun B c => B.set c true) F256)))) ?_ K.length _ _ ?_
 · rintro n e q ⟨g0, g2, p, hp, g4, rfl⟩
   by_cases hlt : p < K.length
   · have hget : K[p]? = some K[p] := List.getElem?_eq_getElem hlt
     have h128 := hK.lt K[p] (List.getElem_mem hlt)
     have c1 : ((p : Int) < (K.length : Int)) = True := eq_true (by omega)
     have c2 : ((128 : Int) ≤ ((K[p] : Nat) : Int)) = False := eq_false (by omega)
     have hw1 := BO (show p + 1 < 2 ^ 63 by omega)
     have c3 : (K[p] < 256) = True := eq_true (by omega)
     have hln : ((K.take p).foldl (fun B c => B.set c true) F256).length = 256 := by rw [Pj, len0]
     have s1 := bs_st1 (i := K[p]) (hb ((K.take p).foldl (fun B c => B.set c true) F256)) (by rw [hln]; omega)
     rw [hset] at s1
     have hx : ((K.take p).foldl (fun B c => B.set c true) F256).set K[p] true = (K.take (p + 1)).foldl (fun B c => B.set c true) F256 := by
      rw [List.take_succ_eq_append_getElem hlt, List.foldl_append]; rfl
     rw [hx] at s1
     simp only [go_sem, B8, Ac, Ab, Ad, Bw, KB_n, KB_x, Nat.reduceBEq, Nat.reduceAdd, Nat.reduceLT, Nat.reduceLeDiff, Nat.reduceEqDiff, reduceIte, Int.reduceEq, reduceCtorEq, g0, g2, g4, DG, c1, Nz, hget, c2, Pl, c3, Nat.mul_one, Nat.zero_add, s1, hw1]
     exact ⟨n - 1, by omega, p + 1, by omega, rfl, rfl⟩
   · have c1 : ((p : Int) < (K.length : Int)) = False := eq_false (by omega)
     have hx : ((K.take p).foldl (fun B c => B.set c true) F256) = BK K := by rw [List.take_of_length_le (by omega)]; rfl
     rw [hx]
     simp only [go_sem, B8, Ac, Ab, Ad, Bw, KB_n, KB_x, Nat.reduceBEq, Nat.reduceAdd, Nat.reduceLT, Nat.reduceLeDiff, Nat.reduceEqDiff, reduceIte, Int.reduceEq, reduceCtorEq, g0, g2, g4, DG, c1, la, hpl, st, hfl, frz]
     refine AM ov ?_ ?_
     · simp [Ca, AV.refs, AV.refs.go, Of]
     · simp only [wkZ]
       have e1 : wk (.agg (List.replicate 256 .id)) (.agg (bs (BK K))) = .agg (bs (BK K)) := by
        rw [wk, bs_wk]
       rw [e1]
       rfl
 · simp only [go_sem, B8, Ac, Ab, Ad, Bw, KB_n, KB_x, Nat.reduceBEq, Nat.reduceAdd, Nat.reduceLT, Nat.reduceLeDiff, Nat.reduceEqDiff, reduceIte, Int.reduceEq, reduceCtorEq]
   exact ⟨0, by omega, rfl, rfl⟩
def Mw (K l : List Nat) : Bool := l.any fun c => decide (c ∈ K)
theorem SG {K : List Nat} {r : Int} (h : 128 ≤ r) : Nu K r = -1 := by unfold Nu; rw [if_neg (by omega)]
theorem Lw (K : List Nat) (c : Nat) (h : c < 128) : (0 ≤ Nu K (c : Int)) ↔ c ∈ K := by
 unfold Nu
 rw [if_pos (by omega), Int.toNat_natCast]
 have := Mx (c := c) (l := K) (n := 0)
 constructor
 · intro h1
   by_cases h2 : c ∈ K
   · exact h2
   · exact absurd (this.2 h2) (by omega)
 · intro h1
   by_cases h2 : idxB c 0 K < 0
   · exact absurd h1 (this.1 h2)
   · omega
theorem Pk {K l : List Nat} {i : Nat} (h : i < l.length) (hm : l[i] ∈ K) : Mw K l = true := by
 unfold Mw
 rw [List.any_eq_true]
 exact ⟨_, List.getElem_mem h, by simpa using hm⟩
theorem K7 {K l : List Nat} (h : ∀ i (hi : i < l.length), l[i] ∉ K) : Mw K l = false := by
 unfold Mw
 rw [List.any_eq_false]
 intro x hx
 obtain ⟨i, hi, rfl⟩ := List.mem_iff_getElem.1 hx
 simpa using h i hi
def IAK (K l : List Nat) (s : St) (r : AV) (s' : St) : Prop := s' = s ∧ ∃ z : Int, r = .i .i64 z ∧ (decide (0 ≤ z)) = Mw K l
theorem Tk {K : List Nat} {s s2 : St} {l : List Nat} {z : Int} (hov : Over s s2) (h : decide (0 ≤ z) = Mw K l) : KH s [CT.id] (IAK K l s) (some ([.i .i64 z], s2)) := by
 refine ⟨_, _, rfl, ?_⟩
 show IAK K l s (.i .i64 z) (leave s s2 (.i .i64 z))
 rw [hov.leave rfl]
 exact ⟨rfl, z, rfl, h⟩
theorem Nw {K : List Nat} (hK : AsK K) (l : List Nat) (hl : Txt l) (s : St) (hw : Wf s) : ∃ r s', (lim prog).call Dz [.s l, .s K] s = some (r, s') ∧ IAK K l s r s' := by
 refine fn_G (Post := IAK K l s) Ig rfl rfl ?_
 have hlen := hl.len
 have hk4 := hK.four
 have k1 : (K = []) = False := by
  simp only [eq_iff_iff, iff_false]; intro hh; rw [hh] at hk4; simp at hk4
 have k2 : ((K.length : Int) = 1) = False := eq_false (by omega)
 have ia_cin : BD.cin = [.id, .id] := rfl
 have ia_res : BD.res = [(4, none)] := rfl
 have ia_cout : BD.cout = [.id] := rfl
 rw [Vp, ia_cin, ia_res, ia_cout]
 by_cases h8 : (8 : Int) < (l.length : Int)
 · have hmk := mkK_ok hK s.enter hw.enter
   have hb0 : (s.enter.new (.cells 184 Z256)).box? s.enter.nb = some (.cells 184 (bs F256)) := BJ s.enter _
   have st := bs_st hb0 (Nv K) len0
   rw [Kj] at st
   obtain ⟨s1, hs1⟩ : ∃ s1, s.enter.new (.cells 184 (bs (BK K))) = s1 := ⟨_, rfl⟩
   have hb1 : s1.box? s.enter.nb = some (.cells 184 (bs (BK K))) := by rw [← hs1]; exact BJ s.enter _
   have ov1 : Over s s1 := by rw [← hs1]; exact (Over.enter s).new _
   rw [hs1] at st
   have hcells : (AV.agg (bs (BK K))).cells.length = 256 := by show (bs (BK K)).length = 256; simpa using Nv K
   simp only [go_sem, B8, Ac, Ab, Ad, Bw, KB_n, KB_x, Nat.reduceBEq, Nat.reduceAdd, Nat.reduceLT, Nat.reduceLeDiff, Nat.reduceEqDiff, reduceIte, Int.reduceEq, reduceCtorEq, DG, k1, k2, Jd, h8, hmk, st]
   refine DN (fun n e q => ∃ i : Nat, i + n = l.length ∧ q = s1 ∧ e.get 0 = .s l ∧ e.get 6 = .p s.enter.nb 0 ∧ e.get 8 = .i .i64 i ∧ ∀ (j : Nat) (hj : j < l.length), j < i → l[j] ∉ K) ?_ l.length _ _ ?_
   · rintro n e q ⟨i, hi, rfl, g0, g6, g8, hno⟩
     simp only [go_sem, B8, Ac, Ab, Ad, Bw, KB_n, KB_x, Nat.reduceBEq, Nat.reduceAdd, Nat.reduceLT, Nat.reduceLeDiff, Nat.reduceEqDiff, reduceIte, Int.reduceEq, reduceCtorEq, g0, g8, DG]
     refine RZ (fun hlt => ?_) (fun hge => ?_)
     · have hlt : i < l.length := by omega
       have hget : l[i]? = some l[i] := List.getElem?_eq_getElem hlt
       have h256 := hl.lt l[i] (List.getElem_mem hlt)
       have hc := Og hb1 h256 (bk_get K h256)
       simp only [go_sem, B8, Ac, Ab, Ad, Bw, KB_n, KB_x, Nat.reduceBEq, Nat.reduceAdd, Nat.reduceLT, Nat.reduceLeDiff, Nat.reduceEqDiff, reduceIte, Int.reduceEq, reduceCtorEq, g0, g6, g8, Nz, hget, DG, hc]
       refine RZ (fun hm => ?_) (fun hm => ?_)
       · exact Tk ov1 (by rw [Pk hlt hm]; simp)
       · simp only [go_sem, B8, Ac, Ab, Ad, Bw, KB_n, KB_x, Nat.reduceBEq, Nat.reduceAdd, Nat.reduceLT, Nat.reduceLeDiff, Nat.reduceEqDiff, reduceIte, Int.reduceEq, reduceCtorEq, BO (show i + 1 < 2 ^ 63 by omega), g0, g6, g8]
         refine ⟨n - 1, by omega, i + 1, by omega, rfl, fun j hj hji => ?_⟩
         by_cases hje : j = i
         · subst hje; exact hm
         · exact hno j hj (by omega)
     · exact Tk ov1 (by rw [K7 fun j hj => hno j hj (by omega)]; decide)
   · simp only [go_sem, B8, Ac, Ab, Ad, Bw, KB_n, KB_x, Nat.reduceBEq, Nat.reduceAdd, Nat.reduceLT, Nat.reduceLeDiff, Nat.reduceEqDiff, reduceIte, Int.reduceEq, reduceCtorEq]
     exact ⟨0, by omega, rfl, fun j hj h => by omega⟩
 · have hsi : ∀ p p', (s.enter.new (.siter l p)).setBox s.enter.nb (.siter l p') = s.enter.new (.siter l p') := fun p p' => Kj _ _ _
   simp only [go_sem, B8, Ac, Ab, Ad, Bw, KB_n, KB_x, Nat.reduceBEq, Nat.reduceAdd, Nat.reduceLT, Nat.reduceLeDiff, Nat.reduceEqDiff, reduceIte, Int.reduceEq, reduceCtorEq, DG, k1, k2, Jd, h8]
   refine DN (fun n e q => ∃ i : Nat, i + n = l.length ∧ q = s.enter.new (.siter l i) ∧ e.get 1 = .s K ∧ e.get 45 = .p s.enter.nb 0 ∧ ∀ (j : Nat) (hj : j < l.length), j < i → l[j] ∉ K) ?_ l.length _ _ ?_
   · rintro n e q ⟨i, hi, rfl, g1, g45, hno⟩
     have ov1 : ∀ p, Over s (s.enter.new (.siter l p)) := fun p => (Over.enter s).new _
     by_cases hlt : i < l.length
     · have hget : l[i]? = some l[i] := List.getElem?_eq_getElem hlt
       by_cases h128 : l[i] < 128
       · have h128' : (l[i] < 128) = True := by simp [h128]
         have hr := Io hK (l[i] : Int) (by omega) (by omega)
         simp only [go_sem, B8, Ac, Ab, Ad, Bw, KB_n, KB_x, Nat.reduceBEq, Nat.reduceAdd, Nat.reduceLT, Nat.reduceLeDiff, Nat.reduceEqDiff, reduceIte, Int.reduceEq, reduceCtorEq, g1, g45, hget, h128', DG, hsi, hr]
         refine RZ (fun hm => ?_) (fun hm => ?_)
         · exact Tk (ov1 _) (by rw [Pk hlt ((Lw K _ h128).1 hm)]; simp)
         · refine ⟨n - 1, by omega, i + 1, by omega, rfl, fun j hj hji => ?_⟩
           by_cases hje : j = i
           · subst hje; exact fun hh => hm ((Lw K _ h128).2 hh)
           · exact hno j hj (by omega)
       · have h128' : (l[i] < 128) = False := by simp [h128]
         obtain ⟨r, w, e1, e2, e3, e4, e5, e6⟩ := Tn hl.lt hlt (by omega)
         have hr := Io hK (r : Int) (by omega) (by omega)
         rw [SG (by omega)] at hr
         have hm1 : ((0 : Int) ≤ -1) = False := by simp
         simp only [go_sem, B8, Ac, Ab, Ad, Bw, KB_n, KB_x, Nat.reduceBEq, Nat.reduceAdd, Nat.reduceLT, Nat.reduceLeDiff, Nat.reduceEqDiff, reduceIte, Int.reduceEq, reduceCtorEq, g1, g45, hget, h128', DG, hsi, e1, hr, hm1]
         refine ⟨n - w, by omega, i + w, by omega, rfl, fun j hj hji => ?_⟩
         by_cases hje : j < i
         · exact hno j hj hje
         · have := e6 j hj (by omega) hji
           intro hh
           have := hK.lt _ hh
           omega
     · have hget : l[i]? = none := List.getElem?_eq_none (by omega)
       simp only [go_sem, B8, Ac, Ab, Ad, Bw, KB_n, KB_x, Nat.reduceBEq, Nat.reduceAdd, Nat.reduceLT, Nat.reduceLeDiff, Nat.reduceEqDiff, reduceIte, Int.reduceEq, reduceCtorEq, g1, g45, hget]
       exact Tk (ov1 _) (by rw [K7 fun j hj => hno j hj (by omega)]; decide)
   · simp only [go_sem, B8, Ac, Ab, Ad, Bw, KB_n, KB_x, Nat.reduceBEq, Nat.reduceAdd, Nat.reduceLT, Nat.reduceLeDiff, Nat.reduceEqDiff, reduceIte, Int.reduceEq, reduceCtorEq]
     exact ⟨0, by omega, rfl, fun j hj h => by omega⟩
theorem K8 {K : List Nat} (hK : AsK K) (l : List Nat) (hl : Txt l) (s : St) (hw : Wf s) : (lim prog).call C8 [.s l, .s K] s = some (.b (Mw K l), s) := by
 refine fn_W G9 rfl rfl ?_
 obtain ⟨r, s', h, rfl, z, rfl, hz⟩ := Nw hK l hl s.enter hw.enter
 simp only [Bj, go_sem, B8, Ac, Ab, Ad, Bw, KB_n, KB_x, Nat.reduceBEq, Nat.reduceAdd, Nat.reduceLT, Nat.reduceLeDiff, Nat.reduceEqDiff, reduceIte, Int.reduceEq, reduceCtorEq, h, hz]
 exact AM (Over.enter s) rfl rfl
end Go.Proofs.YtmnbfgfgjmmhfaaGreatDoor

namespace Go.Proofs.YtmnbfgfgjmmhfaaGreatDoor
open Go.Proofs.YtmnbfgfgjmmhfaaGreatDoor.Am
def segs : List Nat → List Nat → List (List Nat)
 | cur, [] => [cur]
 | cur, c :: l => if c = 47 then cur :: segs [] l else segs (cur ++ [c]) l
def splitL (l : List Nat) : List (List Nat) := segs [] l
theorem QM {s s1 : St} {v : AV} (h : v.refs = true) : leave s s1 v = { s1 with lo := min s.lo s1.lo } := by
 unfold Am.leave
 rw [h, Bool.not_true, Bool.and_false, if_neg (by simp)]

def stepOk (x : List Nat) : Bool := decide (x ≠ []) && decide (x ≠ [46])
def cnt (l : List Nat) (j : Nat) : Nat := (((splitL l).take j).filter stepOk).length

/-! ### Clean -/





attribute [local irreducible] W WO WE WQ WD Tr.get Tr.set
theorem Mt {s q : St} (h : Over s q) {id : Nat} (hid : id < s.nb) : q.box? id = s.box? id := by
 have h1 := h.nb
 have e1 : Nat.blt id q.nb = true := by rw [Nat.blt_eq]; omega
 have e2 : Nat.blt id s.nb = true := by rw [Nat.blt_eq]; exact hid
 simp only [St.box?, e1, e2, cond_true, ← h.boxes, List.getElem?_drop]
 congr 1
 omega
theorem Vk {s q : St} (h : Over s q) {id T off : Nat} {cs : List AV} {v : AV} (hid : id < s.nb) (hb : s.box? id = some (.cells T cs)) (hc : cs[off]? = some v) : ldA q false 1 (.p id off) = some v :=
 F0 (by rw [Mt h hid]; exact hb) hc
section
variable {s0 s : St} {n : En} {R : List RA} {B : List (Nat × Box)}
theorem _root_.Go.Proofs.YtmnbfgfgjmmhfaaGreatDoor.Am.Hp.strw (H : Hp s0 s n R B) (i : Nat) {id T off m rm : Nat} {cs : List AV} {v : AV} (h : B[i]? = some (id, .row T cs false rm)) (hoff : off + m ≤ cs.length) (hv : v.cells.length = m ∧ ones v.cells = true) :
    ∃ s', stA s m (.p id off) v = some s' ∧ Hp s0 s' n R (B.set i (id, .row T (cs.take off ++ (v.cells ++ cs.drop (off + v.cells.length))) false rm)) ∧ s'.nb = s.nb := by
 have hb : (B.set i (id, Box.row T (cs.take off ++ (v.cells ++ cs.drop (off + v.cells.length))) false rm))[i]? = some (id, .row T (cs.take off ++ (v.cells ++ cs.drop (off + v.cells.length))) false rm) := by
  rw [List.getElem?_set, if_pos rfl, if_pos (by rw [List.getElem?_eq_some_iff] at h; exact h.1)]
 obtain ⟨h1, h2, _⟩ := (H.setBox h (.row T (cs.take off ++ (v.cells ++ cs.drop (off + v.cells.length))) false rm)).esc hb v
 refine ⟨_, ?_, h1, h2⟩
 have hbx := (H.box h).1
 simp only at hbx
 have : Am.overR cs off v.cells rm = some (cs.take off ++ (v.cells ++ cs.drop (off + v.cells.length))) := by
  unfold Am.overR
  rw [if_pos (by omega)]
 simp only [stA, hbx, hv, and_self, if_true, this]
end
structure PT where
 var : Bool
 text : List Nat
 quoted : Bool
def PT.cells (p : PT) : List AV := [.b p.var, .s p.text, .b p.quoted]
def PT.av (p : PT) : AV := .agg p.cells
structure IT where
 parts : List PT
 split : Bool
def ptx (l : List PT) : AV := .ws false 3 (l.map PT.av)
def IT.cells (x : IT) : List AV := [ptx x.parts, .b x.split]
def IT.av (x : IT) : AV := .agg x.cells
def itx (l : List IT) : AV := .ws false 2 (l.map IT.av)
inductive IN where
 | mk (k : Nat) (n : List Nat) (is : List IT) (ks : List IN)
def IN.kind : IN → Nat | .mk k _ _ _ => k
def IN.name : IN → List Nat | .mk _ n _ _ => n
def IN.items : IN → List IT | .mk _ _ is _ => is
def IN.kids : IN → List IN | .mk _ _ _ ks => ks
mutual
def IN.av : IN → AV
 | .mk k n is ks => .agg [.i .u8 (k : Nat), .s n, itx is, .ws false 4 (IN.avs ks)]
def IN.avs : List IN → List AV
 | [] => []
 | n :: l => n.av :: IN.avs l
end
theorem IN.avs_map : ∀ l : List IN, IN.avs l = l.map IN.av
 | [] => by simp [IN.avs]
 | n :: l => by simp only [IN.avs, IN.avs_map l, List.map_cons]
def inx (l : List IN) : AV := .ws false 4 (l.map IN.av)
def IN.cells (n : IN) : List AV := [.i .u8 (n.kind : Nat), .s n.name, itx n.items, .ws false 4 (n.kids.map IN.av)]
theorem IN.av_eq (n : IN) : n.av = .agg n.cells := by
 cases n with
 | mk k t ns ks => simp only [IN.av, IN.avs_map, IN.cells, IN.kind, IN.name, IN.items, IN.kids]
theorem IN.lt {n k : IN} (h : k ∈ n.kids) : SizeOf.sizeOf k < SizeOf.sizeOf n := by
 cases n with
 | mk a t ns ks =>
   have h : k ∈ ks := h
   have := List.sizeOf_lt_of_mem h
   simp only [IN.mk.sizeOf_spec]
   omega
theorem IN.ind {P : IN → Prop} (h : ∀ n, (∀ k ∈ n.kids, P k) → P n) (n : IN) : P n := by
 have : ∀ (m : Nat) (n : IN), SizeOf.sizeOf n < m → P n := by
  intro m
  induction m with
  | zero => intro n hn; omega
  | succ m ih =>
    intro n hn
    exact h n fun k hk => ih k (by have := IN.lt hk; omega)
 exact this _ n (Nat.lt_succ_self _)
structure PT.Ok (p : PT) : Prop where
 text : Txt p.text
 len : p.text.length < 2 ^ 60
structure IT.Ok (x : IT) : Prop where
 parts : ∀ p ∈ x.parts, p.Ok
 len : x.parts.length < 2 ^ 34
inductive IN.Ok : IN → Prop
 | mk {k : Nat} {n : List Nat} {is : List IT} {ks : List IN} (h1 : k < 256) (h2 : Txt n) (h2' : n.length < 2 ^ 60) (h3 : ∀ x ∈ is, x.Ok) (h4 : is.length < 2 ^ 34) (h5 : ∀ x ∈ ks, x.Ok) (h6 : ks.length < 2 ^ 34) : IN.Ok (.mk k n is ks)
theorem IN.Ok.kind {n : IN} (h : n.Ok) : n.kind < 256 := by cases h; assumption
theorem IN.Ok.name {n : IN} (h : n.Ok) : Txt n.name := by cases h; assumption
theorem IN.Ok.items {n : IN} (h : n.Ok) : (∀ x ∈ n.items, x.Ok) ∧ n.items.length < 2 ^ 34 := by cases h; exact ⟨by assumption, by assumption⟩
theorem IN.Ok.kids {n : IN} (h : n.Ok) : (∀ x ∈ n.kids, x.Ok) ∧ n.kids.length < 2 ^ 34 := by cases h; exact ⟨by assumption, by assumption⟩
theorem Pc {L : List PT} {i : Nat} {p : PT} (h : L[i]? = some p) : (L.map PT.av)[i]? = some (.agg p.cells) := by rw [List.getElem?_map, h]; rfl
theorem R3 {L : List IT} {i : Nat} {p : IT} (h : L[i]? = some p) : (L.map IT.av)[i]? = some (.agg p.cells) := by rw [List.getElem?_map, h]; rfl
theorem R4 {L : List IN} {i : Nat} {p : IN} (h : L[i]? = some p) : (L.map IN.av)[i]? = some (.agg p.cells) := by rw [List.getElem?_map, h, Option.map_some, IN.av_eq]
theorem pc3 (p : PT) : p.cells.length = 3 := rfl
theorem ic2 (p : IT) : p.cells.length = 2 := rfl
theorem nc4 (p : IN) : p.cells.length = 4 := rfl
theorem po3 (p : PT) : ones p.cells = true := rfl
theorem io2 (p : IT) : ones p.cells = true := rfl
theorem no4 (p : IN) : ones p.cells = true := rfl
theorem FY (p : PT) (s : St) : pubL s p.cells = some (p.cells, s) := rfl
theorem Tg (p : IT) (s : St) : pubL s p.cells = some (p.cells, s) := rfl
theorem E1 (p : IN) (s : St) : pubL s p.cells = some (p.cells, s) := rfl
theorem pld (p : PT) (s : St) : ldA s true 3 (.ep p.cells 0 .shut) = some (.agg p.cells) := rfl
theorem ild (p : IT) (s : St) : ldA s true 2 (.ep p.cells 0 .shut) = some (.agg p.cells) := rfl
theorem nld (p : IN) (s : St) : ldA s true 4 (.ep p.cells 0 .shut) = some (.agg p.cells) := rfl
def orZ (c : Nat) : Int := IntKind.u8.wrap (BitVec.ofInt 8 (c : Int) ||| BitVec.ofInt 8 32).toNat
def JN (c : Nat) : Bool := decide (c = 95) || (decide (97 ≤ orZ c) && decide (orZ c ≤ 122))
def Pd (c : Nat) : Bool := decide (48 ≤ c) && decide (c ≤ 57)
theorem R5 (c : Nat) : Am.binOp .or (.i .u8 (c : Int)) (.i .u8 32) = some (.i .u8 (orZ c)) := rfl
theorem Nq (c : Nat) (s : St) : (lim prog).call Eu [.i .u8 (c : Nat)] s = some (.b (JN c), s) := by
 refine fn_W Mm rfl rfl ?_
 have hb : ∀ b, KR s [.id] (.b b) (some ([.b b], s.enter)) := fun b => AM (Over.enter s) rfl rfl
 unfold JN
 by_cases h1 : c = 95
 · have e1 : ((c : Int) = 95) = True := eq_true (by omega)
   simp only [Cp, go_sem, AE, AA, AC, AB, KB_n, KB_x, Nat.reduceBEq, Nat.reduceAdd, Nat.reduceLT, Nat.reduceLeDiff, Nat.reduceEqDiff, reduceIte, Int.reduceEq, reduceCtorEq, e1, decide_eq_true h1, Bool.true_or]
   exact hb _
 · have e1 : ((c : Int) = 95) = False := eq_false (by omega)
   rw [decide_eq_false h1]
   by_cases h2 : 97 ≤ orZ c
   · have e2 : ((97 : Int) ≤ orZ c) = True := eq_true h2
     simp only [Cp, go_sem, AE, AA, AC, AB, KB_n, KB_x, Nat.reduceBEq, Nat.reduceAdd, Nat.reduceLT, Nat.reduceLeDiff, Nat.reduceEqDiff, reduceIte, Int.reduceEq, reduceCtorEq, e1, R5, e2, Bool.false_or, decide_true, Bool.true_and]
     exact hb _
   · have e2 : ((97 : Int) ≤ orZ c) = False := eq_false h2
     simp only [Cp, go_sem, AE, AA, AC, AB, KB_n, KB_x, Nat.reduceBEq, Nat.reduceAdd, Nat.reduceLT, Nat.reduceLeDiff, Nat.reduceEqDiff, reduceIte, Int.reduceEq, reduceCtorEq, e1, R5, e2, Bool.false_or, decide_false, Bool.false_and]
     exact hb _
theorem Th (c : Nat) (s : St) : (lim prog).call G7 [.i .u8 (c : Nat)] s = some (.b (Pd c), s) := by
 refine fn_W Nm rfl rfl ?_
 have hb : ∀ b, KR s [.id] (.b b) (some ([.b b], s.enter)) := fun b => AM (Over.enter s) rfl rfl
 unfold Pd
 by_cases h1 : 48 ≤ c
 · have e1 : ((48 : Int) ≤ (c : Int)) = True := eq_true (by omega)
   have e2 : decide ((c : Int) ≤ 57) = decide (c ≤ 57) := by simp only [decide_eq_decide]; omega
   simp only [Di, go_sem, AE, AA, AC, AB, KB_n, KB_x, Nat.reduceBEq, Nat.reduceAdd, Nat.reduceLT, Nat.reduceLeDiff, Nat.reduceEqDiff, reduceIte, Int.reduceEq, reduceCtorEq, e1, e2, decide_eq_true h1, Bool.true_and]
   exact hb _
 · have e1 : ((48 : Int) ≤ (c : Int)) = False := eq_false (by omega)
   simp only [Di, go_sem, AE, AA, AC, AB, KB_n, KB_x, Nat.reduceBEq, Nat.reduceAdd, Nat.reduceLT, Nat.reduceLeDiff, Nat.reduceEqDiff, reduceIte, Int.reduceEq, reduceCtorEq, e1, decide_eq_false h1, Bool.false_and]
   exact hb _
theorem Ei (l : List Nat) (c : Nat) (hc : c < 256) (s : St) : (lim prog).call Bm [.s l, .s [c]] s = some (.b (decide (c ∈ l)), s) := by
 refine fn_W Ie rfl rfl ?_
 have h := Tl l c hc s.enter
 have e : decide (0 ≤ idxB c 0 l) = decide (c ∈ l) := by
  have := Mx (c := c) (l := l) (n := 0)
  simp only [decide_eq_decide]
  constructor
  · intro h1
    by_cases h2 : c ∈ l
    · exact h2
    · exact absurd (this.2 h2) (by omega)
  · intro h1
    by_cases h2 : idxB c 0 l < 0
    · exact absurd h1 (this.1 h2)
    · omega
 simp only [CN, go_sem, AE, AA, AC, AB, KB_n, KB_x, Nat.reduceBEq, Nat.reduceAdd, Nat.reduceLT, Nat.reduceLeDiff, Nat.reduceEqDiff, reduceIte, Int.reduceEq, reduceCtorEq, h, e]
 exact AM (Over.enter s) rfl rfl
def runN : List Nat → Nat → Nat
 | _, 0 => 0
 | [], _ => 0
 | c :: t, m + 1 => if JN c || Pd c then 1 + runN t m else 0
def leadN : List Nat → Nat
 | [] => 0
 | c :: t => if JN c then 1 + runN t 63 else 0
theorem Vl (l : List Nat) (s : St) : (lim prog).call Hn [.s l] s = some (.i .i64 (leadN l : Nat), s) := by
 refine fn_W OX rfl rfl ?_
 have hz0 : wkZ Co.cin [.s l] = [.s l] := by simp [Co, wkZ, wk]
 rw [hz0]
 cases l with
 | nil =>
   have e1 : (([] : List Nat) = []) = True := eq_true rfl
   simp only [Co, go_sem, AE, AA, AC, AB, KB_n, KB_x, Nat.reduceBEq, Nat.reduceAdd, Nat.reduceLT, Nat.reduceLeDiff, Nat.reduceEqDiff, reduceIte, Int.reduceEq, reduceCtorEq, e1]
   exact AM (Over.enter s) rfl rfl
 | cons c t =>
   have e1 : ((c :: t) = []) = False := by simp
   have hL := Nq c s.enter
   have n0 : CI (.i .i64 0) = some 0 := rfl
   have g0' : (c :: t)[0]? = some c := rfl
   cases hlc : JN c with
   | false =>
     rw [hlc] at hL
     simp only [Co, go_sem, AE, AA, AC, AB, KB_n, KB_x, Nat.reduceBEq, Nat.reduceAdd, Nat.reduceLT, Nat.reduceLeDiff, Nat.reduceEqDiff, reduceIte, Int.reduceEq, reduceCtorEq, e1, n0, g0', hL]
     exact AM (Over.enter s) rfl (by simp [Ca, wkZ, wk, leadN, hlc])
   | true =>
     rw [hlc] at hL
     have hlead : leadN (c :: t) = 1 + runN t 63 := by simp [leadN, hlc]
     simp only [Co, go_sem, AE, AA, AC, AB, KB_n, KB_x, Nat.reduceBEq, Nat.reduceAdd, Nat.reduceLT, Nat.reduceLeDiff, Nat.reduceEqDiff, reduceIte, Int.reduceEq, reduceCtorEq, e1, n0, g0', hL]
     refine DN (fun x e q => ∃ n : Nat, n + x = 64 ∧ 1 ≤ n ∧ n + runN ((c :: t).drop n) (64 - n) = leadN (c :: t) ∧ q = s.enter ∧ e.get 0 = .s (c :: t) ∧ e.get 3 = .i .i64 (n : Nat)) ?_ 63 _ _ ?_
     · rintro x e q ⟨n, hn, h1n, hrun, rfl, g0, g3⟩
       have hfin : leadN (c :: t) = n → KR s [.id] (.i .i64 (leadN (c :: t) : Nat)) (some ([.i .i64 (n : Nat)], s.enter)) := fun h => AM (Over.enter s) rfl (by rw [h]; rfl)
       by_cases h : n < (c :: t).length
       · have f1 : ((n : Int) < (((c :: t).length : Nat) : Int)) = True := eq_true (by omega)
         have hdr : (c :: t).drop n = (c :: t)[n] :: (c :: t).drop (n + 1) := List.drop_eq_getElem_cons h
         by_cases h6 : n < 64
         · have f2 : ((n : Int) < 64) = True := eq_true (by omega)
           obtain ⟨m, hm⟩ : ∃ m, 64 - n = m + 1 := ⟨63 - n, by omega⟩
           have hget : (c :: t)[n]? = some (c :: t)[n] := List.getElem?_eq_getElem h
           obtain ⟨d, hd⟩ : ∃ d, (c :: t)[n] = d := ⟨_, rfl⟩
           rw [hd] at hget hdr
           have hLd := Nq d s.enter
           have hDd := Th d s.enter
           have hw1 := BO (show n + 1 < 2 ^ 63 by omega)
           rw [hdr, hm, runN] at hrun
           cases hld : JN d with
           | true =>
             rw [hld] at hLd hrun
             simp only [go_sem, AE, AA, AC, AB, KB_n, KB_x, Nat.reduceBEq, Nat.reduceAdd, Nat.reduceLT, Nat.reduceLeDiff, Nat.reduceEqDiff, reduceIte, Int.reduceEq, reduceCtorEq, g0, g3, f1, f2, AI, hget, hLd, hw1]
             refine ⟨x - 1, by omega, n + 1, by omega, by omega, ?_, rfl⟩
             rw [show 64 - (n + 1) = m by omega]
             simp only [Bool.true_or, if_true] at hrun
             omega
           | false =>
             rw [hld] at hLd hrun
             cases hdd : Pd d with
             | true =>
               rw [hdd] at hDd hrun
               simp only [go_sem, AE, AA, AC, AB, KB_n, KB_x, Nat.reduceBEq, Nat.reduceAdd, Nat.reduceLT, Nat.reduceLeDiff, Nat.reduceEqDiff, reduceIte, Int.reduceEq, reduceCtorEq, g0, g3, f1, f2, AI, hget, hLd, hDd, hw1]
               refine ⟨x - 1, by omega, n + 1, by omega, by omega, ?_, rfl⟩
               rw [show 64 - (n + 1) = m by omega]
               simp only [Bool.or_true, if_true] at hrun
               omega
             | false =>
               rw [hdd] at hDd hrun
               simp only [go_sem, AE, AA, AC, AB, KB_n, KB_x, Nat.reduceBEq, Nat.reduceAdd, Nat.reduceLT, Nat.reduceLeDiff, Nat.reduceEqDiff, reduceIte, Int.reduceEq, reduceCtorEq, g0, g3, f1, f2, AI, hget, hLd, hDd]
               refine hfin ?_
               simp only [Bool.or_self, Bool.false_eq_true, if_false] at hrun
               omega
         · have f2 : ((n : Int) < 64) = False := eq_false (by omega)
           simp only [go_sem, AE, AA, AC, AB, KB_n, KB_x, Nat.reduceBEq, Nat.reduceAdd, Nat.reduceLT, Nat.reduceLeDiff, Nat.reduceEqDiff, reduceIte, Int.reduceEq, reduceCtorEq, g0, g3, f1, f2]
           refine hfin ?_
           rw [show 64 - n = 0 by omega, runN] at hrun
           omega
       · have f1 : ((n : Int) < (((c :: t).length : Nat) : Int)) = False := eq_false (by omega)
         simp only [go_sem, AE, AA, AC, AB, KB_n, KB_x, Nat.reduceBEq, Nat.reduceAdd, Nat.reduceLT, Nat.reduceLeDiff, Nat.reduceEqDiff, reduceIte, Int.reduceEq, reduceCtorEq, g0, g3, f1]
         refine hfin ?_
         rw [List.drop_of_length_le (by omega)] at hrun
         have : ∀ m, runN [] m = 0 := fun m => by cases m <;> rfl
         rw [this] at hrun
         omega
     · simp only [go_sem, AE, AA, AC, AB, KB_n, KB_x, Nat.reduceBEq, Nat.reduceAdd, Nat.reduceLT, Nat.reduceLeDiff, Nat.reduceEqDiff, reduceIte, Int.reduceEq, reduceCtorEq]
       refine ⟨1, by omega, by omega, ?_, rfl⟩
       rw [hlead]; rfl
abbrev K11 : List Nat := [49, 50, 51, 52, 53, 54, 55, 56, 57, 35, 63]
def Ja (l : List Nat) : Bool := (match l with | [c] => decide (c ∈ K11) | _ => false) || (decide (l ≠ []) && decide (leadN l = l.length))
theorem Mu (l : List Nat) (hl : Txt l) (s : St) : (lim prog).call Fe [.s l] s = some (.b (Ja l), s) := by
 refine fn_W Nk rfl rfl ?_
 have hlen := hl.len
 have hz0 : wkZ Bx.cin [.s l] = [.s l] := by simp [Bx, wkZ, wk]
 rw [hz0]
 have hLd := Vl l s.enter
 have hb : ∀ b, KR s [.id] (.b b) (some ([.b b], s.enter)) := fun b => AM (Over.enter s) rfl rfl
 have e2 : decide ((leadN l : Int) = (l.length : Int)) = decide (leadN l = l.length) := by simp only [decide_eq_decide]; omega
 by_cases h1 : l.length = 1
 · obtain ⟨c, rfl⟩ := List.length_eq_one_iff.1 h1
   have e1 : (((([c] : List Nat).length : Nat) : Int) = 1) = True := eq_true (by simp)
   have hC := Ei K11 c (hl.lt c (by simp)) s.enter
   have e3 : (([c] : List Nat) ≠ []) = True := by simp
   unfold Ja
   cases hk : decide (c ∈ K11) with
   | true =>
     rw [hk] at hC
     simp only [Bx, go_sem, AE, AA, AC, AB, KB_n, KB_x, Nat.reduceBEq, Nat.reduceAdd, Nat.reduceLT, Nat.reduceLeDiff, Nat.reduceEqDiff, reduceIte, Int.reduceEq, reduceCtorEq, e1, hC, hk, Bool.true_or]
     exact hb _
   | false =>
     rw [hk] at hC
     simp only [Bx, go_sem, AE, AA, AC, AB, KB_n, KB_x, Nat.reduceBEq, Nat.reduceAdd, Nat.reduceLT, Nat.reduceLeDiff, Nat.reduceEqDiff, reduceIte, Int.reduceEq, reduceCtorEq, e1, hC, hk, Bool.false_or, e3, hLd, e2, decide_true, Bool.true_and]
     exact hb _
 · have e1 : ((l.length : Int) = 1) = False := eq_false (by omega)
   have hp : Ja l = (decide (l ≠ []) && decide (leadN l = l.length)) := by
    unfold Ja
    split
    · simp at h1
    · simp
   rw [hp]
   by_cases h0 : l = []
   · subst h0
     have e3 : (([] : List Nat) ≠ []) = False := by simp
     simp only [Bx, go_sem, AE, AA, AC, AB, KB_n, KB_x, Nat.reduceBEq, Nat.reduceAdd, Nat.reduceLT, Nat.reduceLeDiff, Nat.reduceEqDiff, reduceIte, Int.reduceEq, reduceCtorEq, e1, e3, decide_false, Bool.false_and]
     exact hb _
   · have e3 : (l ≠ []) = True := by simp [h0]
     simp only [Bx, go_sem, AE, AA, AC, AB, KB_n, KB_x, Nat.reduceBEq, Nat.reduceAdd, Nat.reduceLT, Nat.reduceLeDiff, Nat.reduceEqDiff, reduceIte, Int.reduceEq, reduceCtorEq, e1, e3, hLd, e2, decide_true, Bool.true_and]
     exact hb _
end Go.Proofs.YtmnbfgfgjmmhfaaGreatDoor

namespace Go.Proofs.YtmnbfgfgjmmhfaaGreatDoor
open Go.Proofs.YtmnbfgfgjmmhfaaGreatDoor.Am
attribute [local irreducible] W WO WE WQ WD Tr.get Tr.set
abbrev zI : List AV := [.i .u8 0, .s [], .nsl, .nsl]
theorem OY (n : IN) : AV.refs.go n.cells = false := by
 have : ∀ n : IN, n.av.refs = false := by
  refine IN.ind fun n ih => ?_
  have hk : ∀ l : List IN, (∀ k ∈ l, k.av.refs = false) → AV.refs.go (l.map IN.av) = false := by
   intro l
   induction l with
   | nil => intro _; rfl
   | cons k l ihl =>
     intro h
     rw [List.map_cons, AV.refs.go, h k (by simp), ihl fun z hz => h z (by simp [hz])]; rfl
  have hp : ∀ l : List PT, AV.refs.go (l.map PT.av) = false := by
   intro l
   induction l with
   | nil => rfl
   | cons k l ihl => rw [List.map_cons, AV.refs.go, ihl]; rfl
  have hi : ∀ l : List IT, AV.refs.go (l.map IT.av) = false := by
   intro l
   induction l with
   | nil => rfl
   | cons k l ihl =>
     rw [List.map_cons, AV.refs.go, ihl]
     simp [IT.av, IT.cells, ptx, AV.refs, AV.refs.go, hp]
  rw [IN.av_eq]
  simp [AV.refs, IN.cells, AV.refs.go, itx, hi, hk n.kids ih]
 have h := this n
 rw [IN.av_eq] at h
 simpa [AV.refs] using h
abbrev aA : C := subC B3.body [1, 1, 1, 0, 0, 1, 1, 0, 0, 1, 1, 0, 0]
abbrev aC : C := subC B3.body [1, 1, 1, 0, 0, 1, 1, 0, 0, 1, 1, 0, 1]
def alV (L : List (Nat × IN)) : List (List AV) := L.map fun x => [.i .i64 (x.1 : Nat), .agg x.2.cells]
theorem Vc {O O1 Kp : Nat → Prop} {s0 qr : St} {hc h k1 idy ky c : Nat} {Lt L1 : List (Nat × IN)} {I : (Nat → St → Prop) → Nat → St → Prop} {R : St → Prop} {e : Tr}
    (B : BodyG prog O s0 hc h (.yld ky) (alV Lt) I R) (hk1 : h ≤ k1) (hO1 : ∀ j, O1 j → h ≤ j ∧ j < k1 ∧ ¬ Kp j) (hKp : ∀ j, Kp j → j < k1 ∧ (O j ∨ h ≤ j)) (hidy : Kp idy) (hyb : qr.box? idy = some (.cells 118 [.yld ky]))
    (h0 : s0.nb ≤ k1) (g3 : e.get 3 = .p idy 0) (hL : ∀ j x, L1[j]? = some x → Lt[c + j]? = some x) :
    BodyG prog O1 s0 hc (k1 + 1) (.yld k1) (alV L1) (fun C j q => I C (c + j) q ∧ q.box? k1 = some (.loop 0 none e [24, 25] aA aC) ∧ ∀ i, Kp i → q.box? i = qr.box? i) (fun q => R q ∧ ∃ tm ps a b, q.box? k1 = some (.loop 2 (some .ret) tm ps a b)) where
 stab := fun C j q q' hC ⟨h1, h2, h3⟩ f => ⟨B.stab _ _ _ _ hC h1 (f.weaken (by omega) fun j hj ho => absurd (hO1 j ho).1 (by omega)), by rw [f.box k1 (by omega) fun ho => absurd (hO1 _ ho).2.1 (by omega)]; exact h2, fun i hi => by rw [f.box i (by have := (hKp i hi).1; omega) fun ho => (hO1 i ho).2.2 hi]; exact h3 i hi⟩
 enter := fun C j q hC ⟨h1, h2, h3⟩ hq => ⟨B.enter _ _ _ hC h1 (by omega), h2, h3⟩
 leave := fun C j s q v hC ⟨h1, h2, h3⟩ hs hn ht hw hv => ⟨B.leave _ _ _ _ _ hC h1 (by omega) hn ht hw hv, by rw [Dw hw hn (by omega)]; exact h2, fun i hi => by rw [Dw hw hn (by have := (hKp i hi).1; omega)]; exact h3 i hi⟩
 stabR := fun q q' ⟨h1, tm, ps, a, b, h2⟩ f => ⟨B.stabR _ _ h1 (f.weaken (by omega) fun j hj ho => absurd (hO1 j ho).1 (by omega)), tm, ps, a, b, by rw [f.box k1 (by omega) fun ho => absurd (hO1 _ ho).2.1 (by omega)]; exact h2⟩
 leaveR := fun s q v ⟨h1, tm, ps, a, b, h2⟩ hs hn ht hw hv => ⟨B.leaveR _ _ _ h1 (by omega) hn ht hw hv, tm, ps, a, b, by rw [Dw hw hn (by omega)]; exact h2⟩
 step := by
  intro C j hj q hC ⟨hI, hk, hkp⟩ hov hw hh
  have hj' : j < L1.length := by simpa [alV] using hj
  obtain ⟨x, hx⟩ : ∃ x, L1[j]? = some x := ⟨_, List.getElem?_eq_getElem hj'⟩
  have hLj : (alV L1)[j] = [.i .i64 (x.1 : Nat), .agg x.2.cells] := by
   rw [List.getElem?_eq_getElem hj'] at hx
   simp only [alV, List.getElem_map]
   rw [Option.some.inj hx]
  have hLt := hL j x hx
  have hjt : c + j < (alV Lt).length := by
   rw [List.getElem?_eq_some_iff] at hLt
   simpa [alV] using hLt.1
  have hLtj : (alV Lt)[c + j] = [.i .i64 (x.1 : Nat), .agg x.2.cells] := by
   rw [List.getElem?_eq_some_iff] at hLt
   simp only [alV, List.getElem_map]
   rw [hLt.2]
  rw [hLj]
  obtain ⟨q0, st0, w0, nb0, nt0, bx0n, bx0, ov0, fr0⟩ := Q4 (q := q) hw (T := 25) (m := 4) (z := zI) (v := .agg x.2.cells) rfl ⟨nc4 _, no4 _⟩ (OY x.2)
  obtain ⟨q1, hq1⟩ : ∃ q1, q0.setBox k1 (.loop 1 none e [24, 25] aA aC) = q1 := ⟨_, rfl⟩
  have w1 : Wf q1 := by rw [← hq1]; exact w0.setBox _ _
  have nb1 : q1.nb = q.nb + 1 ∧ q1.nt = q.nt := by rw [← hq1]; exact ⟨nb0, nt0⟩
  have bx1 : ∀ i, q1.box? i = if i = k1 then some (.loop 1 none e [24, 25] aA aC) else q0.box? i := fun i => by rw [← hq1]; exact setBox_box? w0.b (by omega) i
  have fr1 : Fq O h q q1 := by
   have f3 : Fq O h q0 q1 := by rw [← hq1]; exact Fq.setBox w0 (by omega) (.inl hk1) (by omega) _
   exact (fr0 O h (by omega)).trans f3
  have ov0 := ov0 s0 hov
  have ov1 : Over s0 q1 := by rw [← hq1]; exact Over.setBox ov0 h0 (by omega) _
  have b1k := bx1 k1
  rw [if_pos rfl] at b1k
  have hkp1 : ∀ i, Kp i → q1.box? i = qr.box? i := fun i hi => by
   have := (hKp i hi).1
   rw [bx1, if_neg (by omega), bx0 i (by omega)]
   exact hkp i hi
  have ldy := F0 (s := q1) (v := .yld ky) (off := 0) (by rw [hkp1 idy hidy]; exact hyb) rfl
  have b1n : q1.box? q.nb = some (.cells 25 (AV.agg x.2.cells).cells) := by rw [bx1, if_neg (by omega)]; exact bx0n
  have ldx : ldA q1 true 4 (.p q.nb 0) = some (.agg x.2.cells) := by
   simp only [ldA, St.cells?, b1n]; rfl
  have hO1k : ¬ O1 k1 := fun ho => absurd (hO1 _ ho).2.1 (by omega)
  refine JC ?_
  refine OM (t := (e.set 10 24 (.i .i64 (x.1 : Nat))).set 10 25 (.agg x.2.cells)) hk rfl ?_
  simp only [aA, B3, subC, go_sem, AE, AA, AC, AB, KB_n, KB_x, Nat.reduceBEq, Nat.reduceAdd, Nat.reduceLT, Nat.reduceLeDiff, Nat.reduceEqDiff, reduceIte, Int.reduceEq, reduceCtorEq, st0]
  refine ⟨_, _, _, _, by rw [bx0 k1 (by omega)]; exact hk, ?_⟩
  rw [hq1]
  obtain ⟨bb, q2, hstep, ht2, hf2, hov2, hw2, hnb2, hnt2, hkeep2⟩ := B.step C (c + j) hjt q1 hC (B.stab _ _ _ _ hC hI fr1) ov1 w1 (by omega)
  rw [hLtj] at hstep
  have b2k : q2.box? k1 = q1.box? k1 := hkeep2 k1 (.inr hk1) (by omega)
  rw [b1k] at b2k
  have hkp2 : ∀ i, Kp i → q2.box? i = qr.box? i := fun i hi => by
   rw [hkeep2 i (hKp i hi).2 (by have := (hKp i hi).1; omega)]
   exact hkp1 i hi
  have bx3 : ∀ B i, (q2.setBox k1 B).box? i = if i = k1 then some B else q2.box? i := fun B i => setBox_box? hw2.b (by omega) i
  have frs2 : ∀ B, Fq O h q2 (q2.setBox k1 B) := fun B => Fq.setBox hw2 (by omega) (.inl hk1) (by omega) _
  have keep2 : ∀ i, (O1 i ∨ k1 + 1 ≤ i) → i < q.nb → q2.box? i = q.box? i := fun i hi hlt => by
   rw [hkeep2 i (.inr (by rcases hi with hi | hi; exact (hO1 i hi).1; omega)) (by omega), bx1, if_neg, bx0 i hlt]
   rintro rfl
   rcases hi with hi | hi
   · exact hO1k hi
   · omega
  cases bb with
  | true =>
    simp only [aC, B3, subC, go_sem, AE, AA, AC, AB, KB_n, KB_x, Nat.reduceBEq, Nat.reduceAdd, Nat.reduceLT, Nat.reduceLeDiff, Nat.reduceEqDiff, reduceIte, Int.reduceEq, reduceCtorEq, g3, ldy, ldx, E1, hstep]
    refine IU b2k (by omega) hw2 hov2 h0 (by omega) (by omega) hO1k keep2 (fun _ => ⟨?_, by rw [bx3, if_pos rfl]; rfl, fun i hi => by rw [bx3, if_neg (by have := (hKp i hi).1; omega)]; exact hkp2 i hi⟩) (fun hh => by simp at hh) (fun i hh => by simp at hh)
    exact B.stab _ _ _ _ hC (ht2 rfl) (frs2 _)
  | false =>
    simp only [aC, B3, subC, go_sem, AE, AA, AC, AB, KB_n, KB_x, Nat.reduceBEq, Nat.reduceAdd, Nat.reduceLT, Nat.reduceLeDiff, Nat.reduceEqDiff, reduceIte, Int.reduceEq, reduceCtorEq, g3, ldy, ldx, E1, hstep]
    exact IU b2k (by omega) hw2 hov2 h0 (by omega) (by omega) hO1k keep2 (fun hh => by simp at hh) (fun _ => ⟨B.stabR _ _ (hf2 rfl) (frs2 _), _, _, _, _, by rw [bx3, if_pos rfl]⟩) (fun i hh => by simp at hh)

mutual
def allL : IN → Nat → List (Nat × IN)
 | .mk k n is ks, d => (d, .mk k n is ks) :: Ri ks (d + 1)
def Ri : List IN → Nat → List (Nat × IN)
 | [], _ => []
 | k :: ks, d => allL k d ++ Ri ks d
end
theorem PV : ∀ (l : List IN) (d : Nat), Ri l d = (l.map fun k => allL k d).flatten
 | [], _ => by simp [Ri]
 | k :: l, d => by simp only [Ri, PV l d, List.map_cons, List.flatten_cons]
theorem Mn (n : IN) (d : Nat) : allL n d = (d, n) :: (n.kids.map fun k => allL k (d + 1)).flatten := by
 cases n with
 | mk k nm is ks => simp only [allL, PV, IN.kids]
mutual
def nodesI : IN → Nat
 | .mk _ _ _ ks => 1 + Kv ks
def Kv : List IN → Nat
 | [] => 0
 | k :: ks => nodesI k + Kv ks
end
theorem Kw : ∀ l : List IN, Kv l = (l.map nodesI).sum
 | [] => by simp [Kv]
 | k :: l => by simp only [Kv, Kw l, List.map_cons, List.sum_cons]
theorem Ii (n : IN) : nodesI n = 1 + (n.kids.map nodesI).sum := by
 cases n with
 | mk a t ns ks => simp only [nodesI, Kw, IN.kids]
theorem HS : ∀ {l : List Nat} {x : Nat}, x ∈ l → x ≤ l.sum
 | a :: l, x, h => by
   rw [List.sum_cons]
   rcases List.mem_cons.1 h with rfl | h
   · omega
   · have := HS h; omega
theorem QI {n k : IN} (h : k ∈ n.kids) : nodesI k + 1 ≤ nodesI n := by
 rw [Ii n]
 have := HS (List.mem_map.2 ⟨k, h, rfl⟩ : nodesI k ∈ n.kids.map nodesI)
 omega
theorem TY (n : IN) (d : Nat) (q : St) :
    (lim prog).call Fd [.agg n.cells, .i .i64 (d : Nat)] q = some (.fn Cv [.p (q.nb + 1) 0, .p q.nb 0], { (q.new (.cells 25 n.cells)).new (.cells 3 [.i .i64 (d : Nat)]) with lo := min q.lo q.nb }) := by
 obtain ⟨r, s', h, rfl, rfl⟩ := fn_G (f := Fd) (args := [.agg n.cells, .i .i64 (d : Nat)]) (s := q) (Post := fun r s' => r = .fn Cv [.p (q.nb + 1) 0, .p q.nb 0] ∧ s' = { (q.new (.cells 25 n.cells)).new (.cells 3 [.i .i64 (d : Nat)]) with lo := min q.lo q.nb }) TX rfl rfl (by
  have hz0 : wkZ GZ.cin [.agg n.cells, .i .i64 (d : Nat)] = [.agg n.cells, .i .i64 (d : Nat)] := by simp [GZ, wkZ, wk, IN.cells, itx]
  rw [hz0]
  have h1 : q.enter.nb = q.nb := rfl
  have c1 : (AV.i IntKind.i64 (d : Nat)).cells = [.i .i64 (d : Nat)] := rfl
  simp only [GZ, go_sem, AE, AA, AC, AB, KB_n, KB_x, Nat.reduceBEq, Nat.reduceAdd, Nat.reduceLT, Nat.reduceLeDiff, Nat.reduceEqDiff, reduceIte, Int.reduceEq, reduceCtorEq, nc4, h1, c1, List.length_cons, List.length_nil]
  exact ⟨_, _, rfl, rfl, QM rfl⟩)
 exact h
theorem Rj {n : IN} {d : Nat} {q : St} (hw : Wf q) :
    ∃ q', (lim prog).call Fd [.agg n.cells, .i .i64 (d : Nat)] q = some (.fn Cv [.p (q.nb + 1) 0, .p q.nb 0], q') ∧ Wf q' ∧ q'.nb = q.nb + 2 ∧ q'.nt = q.nt ∧ q'.box? q.nb = some (.cells 25 n.cells) ∧ q'.box? (q.nb + 1) = some (.cells 3 [.i .i64 (d : Nat)]) ∧ (∀ i, i < q.nb → q'.box? i = q.box? i) ∧ (∀ s0 : St, Over s0 q → Over s0 q') ∧ ∀ (O : Nat → Prop) (h : Nat), h ≤ q.nb → Fq O h q q' := by
 have w1 := hw.new (.cells 25 n.cells)
 refine ⟨_, TY n d q, (w1.new _).lo _, rfl, rfl, ?_, ?_, fun i hi => ?_, fun s0 h => ?_, fun O h hq => ?_⟩
 · have h1 : ((q.new (.cells 25 n.cells)).new (.cells 3 [.i .i64 (d : Nat)])).box? q.nb = (q.new (.cells 25 n.cells)).box? q.nb := CK (by simp [St.new])
   exact h1.trans (BJ q _)
 · exact BJ (q.new (.cells 25 n.cells)) _
 · have h1 : ((q.new (.cells 25 n.cells)).new (.cells 3 [.i .i64 (d : Nat)])).box? i = (q.new (.cells 25 n.cells)).box? i := CK (by simp [St.new]; omega)
   exact h1.trans (CK hi)
 · refine ((h.new _).new _).setLo ?_
   have := h.lo
   have := h.nb
   omega
 · refine ((Fq.new hq _).trans (Fq.new (by simp [St.new]; omega) _)).trans (Fq.lo' (by simp [St.new]; omega) ?_)
   exact Nat.min_le_left _ _
theorem flat_take {α : Type} {L : List (List α)} {i : Nat} {x : List α} (h : L[i]? = some x) : (L.take (i + 1)).flatten.length = (L.take i).flatten.length + x.length := by
 rw [List.getElem?_eq_some_iff] at h
 obtain ⟨hi, rfl⟩ := h
 rw [List.take_succ_eq_append_getElem hi, List.flatten_append, List.length_append]
 simp
theorem Rk {α : Type} {L : List (List α)} {i j : Nat} {x : List α} {a : α} (h : L[i]? = some x) (hj : x[j]? = some a) : L.flatten[(L.take i).flatten.length + j]? = some a := by
 rw [List.getElem?_eq_some_iff] at h
 obtain ⟨hi, rfl⟩ := h
 have : L.flatten = (L.take i).flatten ++ (L[i] ++ (L.drop (i + 1)).flatten) := by
  conv => lhs; rw [← List.take_append_drop i L, List.drop_eq_getElem_cons hi, List.flatten_append, List.flatten_cons]
 rw [this, List.getElem?_append_right (by omega), Nat.add_sub_cancel_left, List.getElem?_append_left]
 · exact hj
 · rw [List.getElem?_eq_some_iff] at hj; exact hj.1
theorem Rl : ∀ n : IN, n.Ok → ∀ d : Nat, d + nodesI n < 2 ^ 62 → ∀ {s : St} {xb lb : Nat}, s.box? xb = some (.cells 3 [.i .i64 (d : Nat)]) → s.box? lb = some (.cells 25 n.cells) → xb < s.nb → lb < s.nb →
    IterG prog (fun j => j = xb ∨ j = lb) Cv [.p xb 0, .p lb 0] (alV (allL n d)) s := by
 refine IN.ind fun n ih ho d hd s xb lb hx hlb lx ll => ?_
 intro s0 hc h ky I R C hC hch B hI hov hw hh h0
 have hbel := Mn n d
 obtain ⟨subs, hsubs⟩ : ∃ subs, (n.kids.map fun k => allL k (d + 1)) = subs := ⟨_, rfl⟩
 rw [hsubs] at hbel
 rw [hbel] at B ⊢
 obtain ⟨r, s', hcall, rfl, hres⟩ := fn_G (f := Cv) (args := [.yld ky, .p xb 0, .p lb 0]) (s := s) (Post := fun r s' => r = .tup [] ∧ Over s0 s' ∧ Wf s' ∧ s.nb ≤ s'.nb ∧ s.nt ≤ s'.nt ∧ (I C (alV ((d, n) :: subs.flatten)).length s' ∨ R s')) QH rfl rfl (by
  have hend : ∀ q, Over s0 q → Wf q → s.nb ≤ q.nb → s.nt ≤ q.nt → (I (Cin hc C s) (alV ((d, n) :: subs.flatten)).length q ∨ R q) → KH s [] (fun r s' => r = .tup [] ∧ Over s0 s' ∧ Wf s' ∧ s.nb ≤ s'.nb ∧ s.nt ≤ s'.nt ∧ (I C (alV ((d, n) :: subs.flatten)).length s' ∨ R s')) (some ([], q)) := fun q k1 k2 k3 k4 k5 => by
   refine ⟨_, _, rfl, rfl, P6 hov k1 k3 k4 _, S1 k2 k3 k4 _, Sz k3 _, S0 k4 _, ?_⟩
   exact k5.imp (fun k => B.leave _ _ _ _ _ hC k hh k3 k4 k2 rfl) fun k => B.leaveR _ _ _ k hh k3 k4 k2 rfl
  have hCi : TokSafe hc (Cin hc C s) := Cin.safe s
  have hIi := B.enter _ _ _ hC hI hh
  have hz0 : wkZ B3.cin [.yld ky, .p xb 0, .p lb 0] = [.yld ky, .p xb 0, .p lb 0] := by simp [B3, wkZ, wk]
  have c1 : (AV.yld ky).cells = [.yld ky] := rfl
  have e0 : s.enter.nb = s.nb := rfl
  rw [hz0]
  obtain ⟨q1, hq1⟩ : ∃ q1, s.enter.new (.cells 118 [.yld ky]) = q1 := ⟨_, rfl⟩
  have w1 : Wf q1 := by rw [← hq1]; exact hw.enter.new _
  have nb1 : q1.nb = s.nb + 1 := by rw [← hq1]; rfl
  have nt1 : q1.nt = s.nt := by rw [← hq1]; rfl
  have ov1 : Over s0 q1 := by rw [← hq1]; exact hov.toEnter.new _
  have bx1 : ∀ i, i < s.nb → q1.box? i = s.box? i := fun i hi => by rw [← hq1, CK (by exact hi)]; rfl
  have by1 : q1.box? s.nb = some (.cells 118 [.yld ky]) := by rw [← hq1]; exact BJ s.enter _
  have I1 := B.stab _ _ _ q1 hCi hIi (by rw [← hq1]; exact Fq.new (show h ≤ s.enter.nb from hh) _)
  have ldy1 := F0 (s := q1) (v := .yld ky) (off := 0) by1 rfl
  have ldd1 := F0 (s := q1) (v := .i .i64 (d : Nat)) (off := 0) (by rw [bx1 xb lx]; exact hx) rfl
  have ldx1 : ldA q1 true 4 (.p lb 0) = some (.agg n.cells) := by
   simp only [ldA, St.cells?, bx1 lb ll, hlb]; rfl
  obtain ⟨bb, q2, hstep, ht2, hf2, ov2, w2, nb2, nt2, keep2⟩ := B.step (Cin hc C s) 0 (by simp [alV]) q1 hCi I1 ov1 w1 (by omega)
  have hL0 : (alV ((d, n) :: subs.flatten))[0]'(by simp [alV]) = [.i .i64 (d : Nat), .agg n.cells] := rfl
  rw [hL0] at hstep
  have by2 : q2.box? s.nb = some (.cells 118 [.yld ky]) := by rw [keep2 s.nb (.inr hh) (by omega)]; exact by1
  have bxx2 : q2.box? xb = some (.cells 3 [.i .i64 (d : Nat)]) := by rw [keep2 xb (.inl (.inl rfl)) (by omega), bx1 xb lx]; exact hx
  have bxl2 : q2.box? lb = some (.cells 25 n.cells) := by rw [keep2 lb (.inl (.inr rfl)) (by omega), bx1 lb ll]; exact hlb
  cases bb with
  | false =>
    simp only [B3, go_sem, AE, AA, AC, AB, KB_n, KB_x, Nat.reduceBEq, Nat.reduceAdd, Nat.reduceLT, Nat.reduceLeDiff, Nat.reduceEqDiff, reduceIte, Int.reduceEq, reduceCtorEq, c1, e0, hq1, List.length_cons, List.length_nil, ldy1, ldd1, ldx1, E1, hstep]
    exact hend q2 ov2 w2 (by omega) (by omega) (.inr (hf2 rfl))
  | true =>
    have I2 := ht2 rfl
    have ldk2 := F0 (s := q2) (v := .ws false 4 (n.kids.map IN.av)) (off := 3) bxl2 rfl
    have hkl := ho.kids.2
    simp only [B3, go_sem, AE, AA, AC, AB, KB_n, KB_x, Nat.reduceBEq, Nat.reduceAdd, Nat.reduceLT, Nat.reduceLeDiff, Nat.reduceEqDiff, reduceIte, Int.reduceEq, reduceCtorEq, c1, e0, hq1, List.length_cons, List.length_nil, ldy1, ldd1, ldx1, E1, hstep, ldk2, Nat.zero_add, List.length_map]
    refine DN (fun x e q => ∃ i : Nat, i + x = n.kids.length ∧ I (Cin hc C s) (1 + ((subs.take i).flatten).length) q ∧ Over s0 q ∧ Wf q ∧ q2.nb ≤ q.nb ∧ s.nt ≤ q.nt ∧ q.box? s.nb = some (.cells 118 [.yld ky]) ∧ q.box? xb = some (.cells 3 [.i .i64 (d : Nat)]) ∧
     e.get 1 = .p xb 0 ∧ e.get 2 = .p lb 0 ∧ e.get 3 = .p s.nb 0 ∧ e.get 14 = .ws false 4 (n.kids.map IN.av) ∧ e.get 15 = .i .i64 (n.kids.length : Nat) ∧ e.get 16 = .i .i64 (i : Nat)) ?_ n.kids.length _ _ ?_
    · rintro x e q ⟨i, hix, hIq, ovq, wq, nbq, ntq, bq1, bq3, g1, g2, g3, g14, g15, g16⟩
      by_cases hi : i < n.kids.length
      · have h1 : ((i : Int) < (n.kids.length : Int)) = True := eq_true (by omega)
        obtain ⟨k, hk⟩ : ∃ k, n.kids[i]? = some k := ⟨_, List.getElem?_eq_getElem hi⟩
        have hkm := List.mem_of_getElem? hk
        have hko := ho.kids.1 k hkm
        have hnk := QI hkm
        have hk2 := R4 hk
        obtain ⟨q3, st3, w3, nb3, nt3, bf3, bx3, ov3, fq3⟩ := Q4 (q := q) wq (T := 25) (m := 4) (z := zI) (v := .agg k.cells) rfl ⟨nc4 _, no4 _⟩ (OY k)
        have ov3 := ov3 s0 ovq
        have lk3 : ldA q3 true 4 (.p q.nb 0) = some (.agg k.cells) := by
         simp only [ldA, St.cells?, bf3]; rfl
        have ld3 := F0 (s := q3) (v := .i .i64 (d : Nat)) (off := 0) (by rw [bx3 xb (by omega)]; exact bq3) rfl
        have hwd := BO (show d + 1 < 2 ^ 63 by omega)
        obtain ⟨q5, d5, w5, nb5, nt5, bl5, bt5, bx5, ov5, fq5⟩ := Rj (n := k) (d := d + 1) w3
        have ov5 := ov5 s0 ov3
        have Isub : subs[i]? = some (allL k (d + 1)) := by rw [← hsubs, List.getElem?_map, hk]; rfl
        have by5 : q5.box? s.nb = some (.cells 118 [.yld ky]) := by rw [bx5 _ (by omega), bx3 _ (by omega)]; exact bq1
        have bxx5 : q5.box? xb = some (.cells 3 [.i .i64 (d : Nat)]) := by rw [bx5 _ (by omega), bx3 _ (by omega)]; exact bq3
        have I5 := B.stab _ _ _ _ hCi hIq ((fq3 _ _ (by omega)).trans (fq5 _ _ (by omega)))
        simp only [go_sem, AE, AA, AC, AB, KB_n, KB_x, Nat.reduceBEq, Nat.reduceAdd, Nat.reduceLT, Nat.reduceLeDiff, Nat.reduceEqDiff, reduceIte, Int.reduceEq, reduceCtorEq, g1, g2, g3, g14, g15, g16, h1, AI, hk2, nld, E1, st3, lk3, ld3, hwd, d5]
        refine Um (g := Cv) (caps := [.p (q3.nb + 1) 0, .p q3.nb 0]) (by simp only [go_sem, AE, AA, AC, AB, KB_n, KB_x, Nat.reduceBEq, Nat.reduceAdd, Nat.reduceLT, Nat.reduceLeDiff, Nat.reduceEqDiff, reduceIte, Int.reduceEq, reduceCtorEq]) fun e' he' => ?_
        have z1 : e'.get 1 = .p xb 0 := by rw [he']; simp only [go_sem, AE, AA, AC, AB, KB_n, KB_x, Nat.reduceBEq, Nat.reduceAdd, Nat.reduceLT, Nat.reduceLeDiff, Nat.reduceEqDiff, reduceIte, Int.reduceEq, reduceCtorEq, g1]
        have z2 : e'.get 2 = .p lb 0 := by rw [he']; simp only [go_sem, AE, AA, AC, AB, KB_n, KB_x, Nat.reduceBEq, Nat.reduceAdd, Nat.reduceLT, Nat.reduceLeDiff, Nat.reduceEqDiff, reduceIte, Int.reduceEq, reduceCtorEq, g2]
        have z3 : e'.get 3 = .p s.nb 0 := by rw [he']; simp only [go_sem, AE, AA, AC, AB, KB_n, KB_x, Nat.reduceBEq, Nat.reduceAdd, Nat.reduceLT, Nat.reduceLeDiff, Nat.reduceEqDiff, reduceIte, Int.reduceEq, reduceCtorEq, g3]
        have z14 : e'.get 14 = .ws false 4 (n.kids.map IN.av) := by rw [he']; simp only [go_sem, AE, AA, AC, AB, KB_n, KB_x, Nat.reduceBEq, Nat.reduceAdd, Nat.reduceLT, Nat.reduceLeDiff, Nat.reduceEqDiff, reduceIte, Int.reduceEq, reduceCtorEq, g14]
        have z15 : e'.get 15 = .i .i64 (n.kids.length : Nat) := by rw [he']; simp only [go_sem, AE, AA, AC, AB, KB_n, KB_x, Nat.reduceBEq, Nat.reduceAdd, Nat.reduceLT, Nat.reduceLeDiff, Nat.reduceEqDiff, reduceIte, Int.reduceEq, reduceCtorEq, g15]
        have z16 : e'.get 16 = .i .i64 (i : Nat) := by rw [he']; simp only [go_sem, AE, AA, AC, AB, KB_n, KB_x, Nat.reduceBEq, Nat.reduceAdd, Nat.reduceLT, Nat.reduceLeDiff, Nat.reduceEqDiff, reduceIte, Int.reduceEq, reduceCtorEq, g16]
        clear he'
        obtain ⟨q6, hq6⟩ : ∃ q6, q5.new (.loop 0 none e' [24, 25] aA aC) = q6 := ⟨_, rfl⟩
        have w6 : Wf q6 := by rw [← hq6]; exact w5.new _
        have nb6 : q6.nb = q5.nb + 1 := by rw [← hq6]; rfl
        have nt6 : q6.nt = q5.nt := by rw [← hq6]; rfl
        have ov6 : Over s0 q6 := by rw [← hq6]; exact ov5.new _
        have bx6 : ∀ i, i < q5.nb → q6.box? i = q5.box? i := fun i hi => by rw [← hq6]; exact CK hi
        have bk6 : q6.box? q5.nb = some (.loop 0 none e' [24, 25] aA aC) := by rw [← hq6]; exact BJ q5 _
        have fq6 : Fq (fun j => j = xb ∨ j = lb) h q5 q6 := by rw [← hq6]; exact Fq.new (by omega) _
        have B6 := Vc (O1 := fun j => j = q3.nb + 1 ∨ j = q3.nb) (Kp := fun j => j = s.nb ∨ j = xb) (qr := q5) (k1 := q5.nb) (idy := s.nb) (c := 1 + ((subs.take i).flatten).length) (L1 := allL k (d + 1)) (e := e') B (by omega)
         (fun j hj => ⟨by omega, by omega, by omega⟩) (fun j hj => ⟨by omega, by
          rcases hj with rfl | rfl
          · exact .inr hh
          · exact .inl (.inl rfl)⟩) (.inl rfl) by5 (by omega) z3 (fun j x hx => by
          rw [Nat.add_assoc, Nat.add_comm 1, List.getElem?_cons_succ]
          exact Rk Isub hx)
        obtain ⟨q7, d7, ov7, w7, nb7, nt7, hres7⟩ := ih k hkm hko (d + 1) (by omega) (s := q6) (xb := q3.nb + 1) (lb := q3.nb) (by rw [bx6 _ (by omega)]; exact bt5) (by rw [bx6 _ (by omega)]; exact bl5) (by omega) (by omega)
         s0 hc (q5.nb + 1) q5.nb _ _ (Cin hc C s) hCi (by omega) B6 ⟨B.stab _ _ _ _ hCi I5 fq6, bk6, fun i hi => by
          rw [bx6 i (by rcases hi with rfl | rfl <;> omega)]⟩ ov6 w6 (by omega) (by omega)
        have bx7 : ∀ B i, (q7.setBox q5.nb B).box? i = if i = q5.nb then some B else q7.box? i := fun B i => setBox_box? w7.b (by omega) i
        have fq7 : ∀ B, Fq (fun j => j = xb ∨ j = lb) h q7 (q7.setBox q5.nb B) := fun B => Fq.setBox w7 (by omega) (.inl (by omega)) (by omega) _
        have ov8 : ∀ B, Over s0 (q7.setBox q5.nb B) := fun B => Over.setBox ov7 (by omega) (by omega) _
        rw [← hq6] at d7
        rcases hres7 with ⟨hI7, hk7, hkp7⟩ | ⟨hR7, tm, ps, a, b, hk7⟩
        · refine ⟨_, q7, d7, _, _, _, _, _, _, hk7, by decide, ?_⟩
          have hw1 := BO (show i + 1 < 2 ^ 63 by omega)
          simp only [go_sem, AE, AA, AC, AB, KB_n, KB_x, Nat.reduceBEq, Nat.reduceAdd, Nat.reduceLT, Nat.reduceLeDiff, Nat.reduceEqDiff, reduceIte, Int.reduceEq, reduceCtorEq, z16, hw1]
          refine ⟨x - 1, by omega, i + 1, by omega, ?_, ov8 _, w7.setBox _ _, by show q2.nb ≤ q7.nb; omega, by show s.nt ≤ q7.nt; omega, by rw [bx7, if_neg (by omega), hkp7 _ (.inl rfl)]; exact by5, by rw [bx7, if_neg (by omega), hkp7 _ (.inr rfl)]; exact bxx5, z1, z2, z3, z14, z15, rfl⟩
          have : 1 + (subs.take (i + 1)).flatten.length = 1 + (subs.take i).flatten.length + (alV (allL k (d + 1))).length := by
           rw [flat_take Isub]; simp [alV, Nat.add_assoc]
          rw [this]
          exact B.stab _ _ _ _ hCi hI7 (fq7 _)
        · refine ⟨_, q7, d7, _, _, _, _, _, _, hk7, by decide, ?_⟩
          simp only [go_sem, AE, AA, AC, AB, KB_n, KB_x, Nat.reduceBEq, Nat.reduceAdd, Nat.reduceLT, Nat.reduceLeDiff, Nat.reduceEqDiff, reduceIte, Int.reduceEq, reduceCtorEq]
          exact hend _ (ov8 _) (w7.setBox _ _) (by show s.nb ≤ q7.nb; omega) (by show s.nt ≤ q7.nt; omega) (.inr (B.stabR _ _ hR7 (fq7 _)))
      · have h1 : ((i : Int) < (n.kids.length : Int)) = False := eq_false (by omega)
        simp only [go_sem, AE, AA, AC, AB, KB_n, KB_x, Nat.reduceBEq, Nat.reduceAdd, Nat.reduceLT, Nat.reduceLeDiff, Nat.reduceEqDiff, reduceIte, Int.reduceEq, reduceCtorEq, g15, g16, h1]
        refine hend q ovq wq (by omega) (by omega) (.inl ?_)
        have : subs.length ≤ i := by rw [← hsubs]; simp; omega
        rw [List.take_of_length_le this] at hIq
        rw [Nat.add_comm] at hIq
        simpa only [alV, List.length_map, List.length_cons] using hIq
    · simp only [go_sem, AE, AA, AC, AB, KB_n, KB_x, Nat.reduceBEq, Nat.reduceAdd, Nat.reduceLT, Nat.reduceLeDiff, Nat.reduceEqDiff, reduceIte, Int.reduceEq, reduceCtorEq]
      exact ⟨0, by omega, I2, ov2, w2, Nat.le_refl _, by omega, by2, bxx2, rfl⟩)
 exact ⟨s', hcall, hres⟩

theorem Mo : ∀ (n : IN) (d : Nat), (allL n d).length = nodesI n := by
 refine IN.ind fun n ih d => ?_
 rw [Mn, Ii, List.length_cons, List.length_flatten, List.map_map]
 have : n.kids.map (List.length ∘ fun k => allL k (d + 1)) = n.kids.map nodesI := List.map_congr_left fun k hk => ih k hk (d + 1)
 rw [this]; omega
abbrev sA : C := .skip
abbrev sC : C := subC DR.body [1, 1, 0, 1, 0, 1]
theorem TZ {s : St} {L : List (Nat × IN)} {x0 : Nat} {O : Nat → Prop} {k1 : Nat} {e : Tr} (hx : x0 < k1) (hs : s.nb ≤ x0) (g3 : e.get 3 = .p x0 0) (hL : L.length < 2 ^ 62) (hO : ∀ j, O j → j < k1 ∧ j ≠ x0) :
    BodyG prog O s (k1 + 1) (k1 + 1) (.yld k1) (alV L) (fun _ j q => q.box? k1 = some (.loop 0 none e [6, 7] sA sC) ∧ q.box? x0 = some (.cells 3 [.i .i64 (j : Nat)])) (fun _ => False) where
 stab := fun C j q q' _ ⟨h1, h2⟩ f => ⟨by rw [f.box _ (by omega) fun h => by have := (hO _ h).1; omega]; exact h1, by rw [f.box _ (by omega) fun h => (hO _ h).2 rfl]; exact h2⟩
 enter := fun C j q _ h _ => h
 leave := fun C j s q v _ ⟨h1, h2⟩ hs hn ht hw hv => ⟨by rw [Dw hw hn (by omega)]; exact h1, by rw [Dw hw hn (by omega)]; exact h2⟩
 stabR := fun q q' h _ => h.elim
 leaveR := fun s q v h _ _ _ _ _ => h.elim
 step := by
  intro C j hj q hC ⟨hk, hb0⟩ hov hw hh
  have hj' : j < L.length := by simpa [alV] using hj
  obtain ⟨x, hx'⟩ : ∃ x, L[j]? = some x := ⟨_, List.getElem?_eq_getElem hj'⟩
  have hLj : (alV L)[j] = [.i .i64 (x.1 : Nat), .agg x.2.cells] := by
   rw [List.getElem?_eq_getElem hj'] at hx'
   simp only [alV, List.getElem_map]
   rw [Option.some.inj hx']
  rw [hLj]
  obtain ⟨q1, hq1⟩ : ∃ q1, q.setBox k1 (.loop 1 none e [6, 7] sA sC) = q1 := ⟨_, rfl⟩
  have w1 : Wf q1 := by rw [← hq1]; exact hw.setBox _ _
  have nb1 : q1.nb = q.nb ∧ q1.nt = q.nt := by rw [← hq1]; exact ⟨rfl, rfl⟩
  have bx1 : ∀ i, q1.box? i = if i = k1 then some (.loop 1 none e [6, 7] sA sC) else q.box? i := fun i => by rw [← hq1]; exact setBox_box? hw.b (by omega) i
  have ov1 : Over s q1 := by rw [← hq1]; exact Over.setBox hov (by omega) (by omega) _
  have b1k := bx1 k1
  rw [if_pos rfl] at b1k
  have b10 : q1.box? x0 = some (.cells 3 [.i .i64 (j : Nat)]) := by rw [bx1, if_neg (by omega)]; exact hb0
  have ldn := F0 (s := q1) (v := .i .i64 (j : Nat)) (off := 0) b10 rfl
  have hw1 := BO (show j + 1 < 2 ^ 63 by omega)
  have st1 : stA q1 1 (.p x0 0) (.i .i64 ((j + 1 : Nat) : Int)) = some (q1.setBox x0 (.cells 3 [.i .i64 ((j + 1 : Nat) : Int)])) := by
   rw [PI b10 rfl rfl (by simp)]
   rfl
  obtain ⟨q2, hq2⟩ : ∃ q2, q1.setBox x0 (.cells 3 [.i .i64 ((j + 1 : Nat) : Int)]) = q2 := ⟨_, rfl⟩
  rw [hq2] at st1
  have w2 : Wf q2 := by rw [← hq2]; exact w1.setBox _ _
  have bx2 : ∀ i, q2.box? i = if i = x0 then some (.cells 3 [.i .i64 ((j + 1 : Nat) : Int)]) else q1.box? i := fun i => by rw [← hq2]; exact setBox_box? w1.b (by omega) i
  have nb2 : q2.nb = q.nb ∧ q2.nt = q.nt := by rw [← hq2]; exact nb1
  have ov2 : Over s q2 := by rw [← hq2]; exact Over.setBox ov1 (by omega) (by omega) _
  have hkO : ¬ O k1 := fun h => by have := (hO _ h).1; omega
  refine JC ?_
  refine OM (t := (e.set 10 6 (.i .i64 (x.1 : Nat))).set 10 7 (.agg x.2.cells)) hk rfl ?_
  simp only [sA, go_sem, AE, AA, AC, AB, KB_n, KB_x, Nat.reduceBEq, Nat.reduceAdd, Nat.reduceLT, Nat.reduceLeDiff, Nat.reduceEqDiff, reduceIte, Int.reduceEq, reduceCtorEq]
  refine ⟨_, _, _, _, hk, ?_⟩
  rw [hq1]
  simp only [sC, DR, subC, go_sem, AE, AA, AC, AB, KB_n, KB_x, Nat.reduceBEq, Nat.reduceAdd, Nat.reduceLT, Nat.reduceLeDiff, Nat.reduceEqDiff, reduceIte, Int.reduceEq, reduceCtorEq, g3, ldn, hw1, st1]
  have b2k : q2.box? k1 = some (.loop 1 none e [6, 7] sA sC) := by rw [bx2, if_neg (by omega)]; exact b1k
  have bx3 : ∀ B i, (q2.setBox k1 B).box? i = if i = k1 then some B else q2.box? i := fun B i => setBox_box? w2.b (by omega) i
  refine IU b2k (by omega) w2 ov2 (by omega) (by omega) (by omega) hkO (fun i hi hlt => ?_) (fun _ => ⟨by rw [bx3, if_pos rfl]; rfl, by rw [bx3, if_neg (by omega), bx2, if_pos rfl]⟩) (fun hh => by simp at hh) (fun i hh => by simp at hh)
  have h1 : i ≠ k1 := by
   rintro rfl
   rcases hi with hi | hi
   · exact hkO hi
   · omega
  have h2 : i ≠ x0 := by
   rintro rfl
   rcases hi with hi | hi
   · exact (hO _ hi).2 rfl
   · omega
  rw [bx2, if_neg h2, bx1, if_neg h1]
theorem OZ (n : IN) (ho : n.Ok) (hb : nodesI n < 2 ^ 61) (s : St) (hw : Wf s) : (lim prog).call FK [.agg n.cells] s = some (.i .i64 (nodesI n : Nat), s) := by
 refine fn_W Nf rfl rfl ?_
 have hz0 : wkZ DR.cin [.agg n.cells] = [.agg n.cells] := by simp [DR, wkZ, wk, IN.cells, itx]
 rw [hz0]
 have e0 : s.enter.nb = s.nb := rfl
 have H1 := (Hp.begin hw).new (.cells 25 n.cells)
 obtain ⟨q1, hq1⟩ : ∃ q1, s.enter.new (.cells 25 n.cells) = q1 := ⟨_, rfl⟩
 have nb1 : q1.nb = s.nb + 1 := by rw [← hq1]; rfl
 rw [hq1, e0] at H1
 have H2 := H1.new (.cells 3 [.i .i64 0])
 obtain ⟨q2, hq2⟩ : ∃ q2, q1.new (.cells 3 [.i .i64 0]) = q2 := ⟨_, rfl⟩
 rw [hq2] at H2
 obtain ⟨q3, d3, H3, n3, _⟩ := H2.st 0 (off := 0) (v := .i .i64 0) rfl (by simp) ⟨rfl, rfl⟩
 have nb3 : q3.nb = s.nb + 2 := by rw [n3, ← hq2]; show q1.nb + 1 = _; omega
 have lw := H3.ldw (m := 4) 1 rfl rfl
 obtain ⟨q5, d5, w5, nb5, nt5, bl5, bt5, bx5, ov5, fq5⟩ := Rj (n := n) (d := 0) H3.wf
 have ov5 := ov5 s H3.over
 simp only [Int.natCast_zero] at d5
 simp only [DR, go_sem, AE, AA, AC, AB, KB_n, KB_x, Nat.reduceBEq, Nat.reduceAdd, Nat.reduceLT, Nat.reduceLeDiff, Nat.reduceEqDiff, reduceIte, Int.reduceEq, reduceCtorEq, nc4, hq1, e0, hq2, nb1, lw, E1]
 rw [nb1] at d3
 simp only [go_sem, AE, AA, AC, AB, KB_n, KB_x, Nat.reduceBEq, Nat.reduceAdd, Nat.reduceLT, Nat.reduceLeDiff, Nat.reduceEqDiff, reduceIte, Int.reduceEq, reduceCtorEq, d3, lw, E1, d5]
 refine Um (g := Cv) (caps := [.p (q3.nb + 1) 0, .p q3.nb 0]) (by simp only [go_sem, AE, AA, AC, AB, KB_n, KB_x, Nat.reduceBEq, Nat.reduceAdd, Nat.reduceLT, Nat.reduceLeDiff, Nat.reduceEqDiff, reduceIte, Int.reduceEq, reduceCtorEq]) fun e' he' => ?_
 have z3 : e'.get 3 = .p (s.nb + 1) 0 := by rw [he']; simp only [go_sem, AE, AA, AC, AB, KB_n, KB_x, Nat.reduceBEq, Nat.reduceAdd, Nat.reduceLT, Nat.reduceLeDiff, Nat.reduceEqDiff, reduceIte, Int.reduceEq, reduceCtorEq]
 clear he'
 obtain ⟨q6, hq6⟩ : ∃ q6, q5.new (.loop 0 none e' [6, 7] sA sC) = q6 := ⟨_, rfl⟩
 have w6 : Wf q6 := by rw [← hq6]; exact w5.new _
 have nb6 : q6.nb = q5.nb + 1 := by rw [← hq6]; rfl
 have ov6 : Over s q6 := by rw [← hq6]; exact ov5.new _
 have bx6 : ∀ i, i < q5.nb → q6.box? i = q5.box? i := fun i hi => by rw [← hq6]; exact CK hi
 have bk6 : q6.box? q5.nb = some (.loop 0 none e' [6, 7] sA sC) := by rw [← hq6]; exact BJ q5 _
 have B := TZ (s := s) (L := allL n 0) (x0 := s.nb + 1) (k1 := q5.nb) (e := e') (O := fun j => j = q3.nb + 1 ∨ j = q3.nb) (by omega) (by omega) z3 (by rw [Mo]; omega) (fun j hj => by omega)
 have b0 := (H3.box (i := 0) rfl).1
 simp only [nb1] at b0
 obtain ⟨q7, d7, ov7, w7, nb7, nt7, hres7⟩ := Rl n ho 0 (by omega) (s := q6) (xb := q3.nb + 1) (lb := q3.nb) (by rw [bx6 _ (by omega)]; exact bt5) (by rw [bx6 _ (by omega)]; exact bl5) (by omega) (by omega)
  s (q5.nb + 1) (q5.nb + 1) q5.nb _ _ (C0 (q5.nb + 1) 0) (C0.safe _ _) (Nat.le_refl _) B ⟨bk6, by rw [bx6 _ (by omega), bx5 _ (by omega)]; exact b0⟩ ov6 w6 (by omega) (by omega)
 rw [← hq6] at d7
 rcases hres7 with ⟨hk7, hx7⟩ | h
 · refine ⟨_, q7, d7, _, _, _, _, _, _, hk7, by decide, ?_⟩
   have hlen : (alV (allL n 0)).length = nodesI n := by simp [alV, Mo]
   rw [hlen] at hx7
   have bx8 : (q7.setBox q5.nb .used).box? (s.nb + 1) = some (.cells 3 [.i .i64 (nodesI n : Nat)]) := by rw [setBox_box? w7.b (by omega), if_neg (by omega)]; exact hx7
   have la := F0 (v := .i .i64 (nodesI n : Nat)) (off := 0) bx8 rfl
   simp only [go_sem, AE, AA, AC, AB, KB_n, KB_x, Nat.reduceBEq, Nat.reduceAdd, Nat.reduceLT, Nat.reduceLeDiff, Nat.reduceEqDiff, reduceIte, Int.reduceEq, reduceCtorEq, z3, la]
   exact AM (Over.setBox ov7 (by omega) (by omega) _) rfl rfl
 · exact h.elim

def HA (p : PT) : Option (List Nat) := if p.var && !(match p.text with | [c] => decide (c ∈ K11) | _ => false) then some p.text else none
def Bn (l : List IT) : List (List Nat) := l.flatMap fun x => x.parts.filterMap HA
def Js (n : IN) : List (List Nat) := if n.kind = 2 ∨ n.kind = 9 then [n.name] else []
theorem Kx {l : List IT} {i : Nat} {x : IT} (h : l[i]? = some x) : Bn (l.take (i + 1)) = Bn (l.take i) ++ x.parts.filterMap HA := by
 rw [List.getElem?_eq_some_iff] at h
 obtain ⟨hi, rfl⟩ := h
 unfold Bn
 rw [List.take_succ_eq_append_getElem hi, List.flatMap_append]
 simp
theorem LR {l : List PT} {i : Nat} {p : PT} (h : l[i]? = some p) : (l.take (i + 1)).filterMap HA = (l.take i).filterMap HA ++ (HA p).toList := by
 rw [List.getElem?_eq_some_iff] at h
 obtain ⟨hi, rfl⟩ := h
 rw [List.take_succ_eq_append_getElem hi, List.filterMap_append]
 cases h : HA l[i] <;> simp [List.filterMap_cons, h]
theorem Rm {l : List IT} {i j : Nat} {x : IT} (h : l[i]? = some x) : (Bn (l.take i) ++ (x.parts.take j).filterMap HA).length ≤ (Bn l).length := by
 have h1 : List.Sublist ((x.parts.take j).filterMap HA) (x.parts.filterMap HA) := (List.take_sublist j x.parts).filterMap HA
 have h2 : (Bn (l.take (i + 1))).length ≤ (Bn l).length := by
  have : Bn l = Bn (l.take (i + 1)) ++ Bn (l.drop (i + 1)) := by
   unfold Bn
   rw [← List.flatMap_append, List.take_append_drop]
  rw [this, List.length_append]; omega
 rw [Kx h, List.length_append] at h2
 rw [List.length_append]
 have := h1.length_le
 omega
theorem Ky (a b : List (List Nat)) : a.map AV.s ++ b.map AV.s = (a ++ b).map AV.s := by rw [List.map_append]
theorem Ta (n : IN) (s : St) (hw : Wf s) : (lim prog).call FL [.agg n.cells] s = some (tx (Js n), s) := by
 refine fn_W OW rfl rfl ?_
 have hz0 : wkZ Cn.cin [.agg n.cells] = [.agg n.cells] := by simp [Cn, wkZ, wk, IN.cells, itx]
 rw [hz0]
 have e0 : s.enter.nb = s.nb := rfl
 have H1 := (Hp.begin hw).new (.cells 25 n.cells)
 obtain ⟨q1, hq1⟩ : ∃ q1, s.enter.new (.cells 25 n.cells) = q1 := ⟨_, rfl⟩
 rw [hq1, e0] at H1
 have l0 := H1.ld 0 (off := 0) (v := .i .u8 (n.kind : Nat)) rfl rfl
 have l1 := H1.ld 0 (off := 1) (v := .s n.name) rfl rfl
 have hal : Af 1 [AV.s n.name] = true := rfl
 unfold Js
 by_cases h2 : n.kind = 2
 · have e2 : ((n.kind : Int) = 2) = True := eq_true (by omega)
   rw [if_pos (.inl h2)]
   simp only [Cn, go_sem, AE, AA, AC, AB, KB_n, KB_x, Nat.reduceBEq, Nat.reduceAdd, Nat.reduceLT, Nat.reduceLeDiff, Nat.reduceEqDiff, reduceIte, Int.reduceEq, reduceCtorEq, nc4, hq1, e0, l0, l1, e2, hal]
   exact AM H1.over rfl rfl
 · have e2 : ((n.kind : Int) = 2) = False := eq_false (by omega)
   by_cases h9 : n.kind = 9
   · have e9 : ((n.kind : Int) = 9) = True := eq_true (by omega)
     rw [if_pos (.inr h9)]
     simp only [Cn, go_sem, AE, AA, AC, AB, KB_n, KB_x, Nat.reduceBEq, Nat.reduceAdd, Nat.reduceLT, Nat.reduceLeDiff, Nat.reduceEqDiff, reduceIte, Int.reduceEq, reduceCtorEq, nc4, hq1, e0, l0, l1, e2, e9, hal]
     exact AM H1.over rfl rfl
   · have e9 : ((n.kind : Int) = 9) = False := eq_false (by omega)
     rw [if_neg (by omega)]
     simp only [Cn, go_sem, AE, AA, AC, AB, KB_n, KB_x, Nat.reduceBEq, Nat.reduceAdd, Nat.reduceLT, Nat.reduceLeDiff, Nat.reduceEqDiff, reduceIte, Int.reduceEq, reduceCtorEq, nc4, hq1, e0, l0, l1, e2, e9]
     exact AM H1.over rfl rfl
theorem Rn (n : IN) (ho : n.Ok) (hb : (Bn n.items).length < 2 ^ 36) (s : St) (hw : Wf s) : (lim prog).call Ed [.agg n.cells] s = some (tx (Bn n.items), s) := by
 refine fn_W Nh rfl rfl ?_
 have hz0 : wkZ C9.cin [.agg n.cells] = [.agg n.cells] := by simp [C9, wkZ, wk, IN.cells, itx]
 rw [hz0]
 have e0 : s.enter.nb = s.nb := rfl
 have H1 := (Hp.begin hw).new (.cells 25 n.cells)
 obtain ⟨q1, hq1⟩ : ∃ q1, s.enter.new (.cells 25 n.cells) = q1 := ⟨_, rfl⟩
 rw [hq1, e0] at H1
 have l2 := H1.ld 0 (off := 2) (v := .ws false 2 (n.items.map IT.av)) rfl rfl
 have hil := ho.items.2
 simp only [C9, go_sem, AE, AA, AC, AB, KB_n, KB_x, Nat.reduceBEq, Nat.reduceAdd, Nat.reduceLT, Nat.reduceLeDiff, Nat.reduceEqDiff, reduceIte, Int.reduceEq, reduceCtorEq, nc4, hq1, e0, l2, List.length_map]
 refine DN (fun x e q => ∃ (i : Nat) (a : AV), i + x = n.items.length ∧ Hp s q s.en [⟨1, 9, a, (Bn (n.items.take i)).map .s, true⟩] [(s.nb, .cells 25 n.cells)] ∧ e.get 1 = .p s.nb 0 ∧ e.get 3 = a ∧ e.get 9 = .ws false 2 (n.items.map IT.av) ∧ e.get 10 = .i .i64 (n.items.length : Nat) ∧ e.get 11 = .i .i64 (i : Nat)) ?_ n.items.length _ _ ?_
 · rintro x e q ⟨i, a, hix, H, g1, g3, g9, g10, g11⟩
   by_cases hi : i < n.items.length
   · have h1 : ((i : Int) < (n.items.length : Int)) = True := eq_true (by omega)
     obtain ⟨y, hy⟩ : ∃ y, n.items[i]? = some y := ⟨_, List.getElem?_eq_getElem hi⟩
     have hyo := ho.items.1 y (List.mem_of_getElem? hy)
     have hg := R3 hy
     have H2 := H.new (.cells 78 [.nsl, .b false])
     obtain ⟨q2, hq2⟩ : ∃ q2, q.new (.cells 78 [.nsl, .b false]) = q2 := ⟨_, rfl⟩
     rw [hq2] at H2
     obtain ⟨q3, d3, H3, n3, _⟩ := H2.stw 0 (m := 2) (v := .agg y.cells) rfl rfl ⟨ic2 y, io2 y⟩
     have lp := H3.ld 0 (off := 0) (v := .ws false 3 (y.parts.map PT.av)) rfl rfl
     have hpl := hyo.len
     have hw1 := BO (show i + 1 < 2 ^ 63 by omega)
     simp only [go_sem, AE, AA, AC, AB, KB_n, KB_x, Nat.reduceBEq, Nat.reduceAdd, Nat.reduceLT, Nat.reduceLeDiff, Nat.reduceEqDiff, reduceIte, Int.reduceEq, reduceCtorEq, g1, g3, g9, g10, g11, h1, AI, hg, ild, Tg, ic2, hq2, d3, lp, List.length_map]
     refine DN (fun z e q => ∃ (j : Nat) (a : AV), j + z = y.parts.length ∧ Hp s q s.en [⟨1, 9, a, (Bn (n.items.take i) ++ (y.parts.take j).filterMap HA).map .s, true⟩] [(s.nb, .cells 25 n.cells)] ∧ e.get 1 = .p s.nb 0 ∧ e.get 3 = a ∧ e.get 9 = .ws false 2 (n.items.map IT.av) ∧ e.get 10 = .i .i64 (n.items.length : Nat) ∧ e.get 11 = .i .i64 (i : Nat) ∧ e.get 16 = .ws false 3 (y.parts.map PT.av) ∧ e.get 17 = .i .i64 (y.parts.length : Nat) ∧ e.get 18 = .i .i64 (j : Nat)) ?_ y.parts.length _ _ ?_
     · rintro z e q ⟨j, a, hjz, H, g1, g3, g9, g10, g11, g16, g17, g18⟩
       by_cases hj : j < y.parts.length
       · have f1 : ((j : Int) < (y.parts.length : Int)) = True := eq_true (by omega)
         obtain ⟨p, hp⟩ : ∃ p, y.parts[j]? = some p := ⟨_, List.getElem?_eq_getElem hj⟩
         have hpo := hyo.parts p (List.mem_of_getElem? hp)
         have hgp := Pc hp
         have H4 := H.new (.cells 85 [.b false, .s [], .b false])
         obtain ⟨q4, hq4⟩ : ∃ q4, q.new (.cells 85 [.b false, .s [], .b false]) = q4 := ⟨_, rfl⟩
         rw [hq4] at H4
         obtain ⟨q5, d5, H5, n5, _⟩ := H4.stw 0 (m := 3) (v := .agg p.cells) rfl rfl ⟨pc3 p, po3 p⟩
         have k0 := H5.ld 0 (off := 0) (v := .b p.var) rfl rfl
         have k1 := H5.ld 0 (off := 1) (v := .s p.text) rfl rfl
         have hwj := BO (show j + 1 < 2 ^ 63 by omega)
         have hsn := LR hp
         have hle := Rm (j := j) hy
         have hal : Af 1 [AV.s p.text] = true := rfl
         obtain ⟨a', q6, d6, H6, n6, _⟩ := H5.app 0 (y := .sl 1 [.s p.text] .full) (ys := [.s p.text]) rfl rfl (by rw [List.length_map]; simp only [List.length_cons, List.length_nil]; omega)
         have hD5 := H5.dropB
         have hD6 := H6.dropB
         have key : ∀ b : Bool, (!(match p.text with | [c] => decide (c ∈ K11) | _ => false)) = b → p.var = true → HA p = if b then some p.text else none := fun b h hv => by
          unfold HA; rw [hv, h, Bool.true_and]
         cases hv : p.var with
         | false =>
           rw [hv] at k0
           have hrt : HA p = none := by unfold HA; rw [hv]; rfl
           rw [hrt, Option.toList_none, List.append_nil] at hsn
           simp only [go_sem, AE, AA, AC, AB, KB_n, KB_x, Nat.reduceBEq, Nat.reduceAdd, Nat.reduceLT, Nat.reduceLeDiff, Nat.reduceEqDiff, reduceIte, Int.reduceEq, reduceCtorEq, g1, g3, g9, g10, g11, g16, g17, g18, f1, AI, hgp, pld, FY, pc3, hq4, d5, k0, hwj]
           exact ⟨z - 1, by omega, j + 1, a, by omega, by rw [hsn]; exact hD5, rfl, rfl⟩
         | true =>
           rw [hv] at k0
           by_cases hl1 : p.text.length = 1
           · obtain ⟨c, hc⟩ := List.length_eq_one_iff.1 hl1
             have e1 : ((p.text.length : Int) = 1) = True := eq_true (by omega)
             have hC := Ei K11 c (hpo.text.lt c (by rw [hc]; simp)) q5
             rw [← hc] at hC
             cases hk : decide (c ∈ K11) with
             | true =>
               have hrt := key false (by rw [hc]; simp only [hk]; rfl) hv
               rw [if_neg (by simp)] at hrt
               rw [hrt, Option.toList_none, List.append_nil] at hsn
               rw [hk] at hC
               simp only [go_sem, AE, AA, AC, AB, KB_n, KB_x, Nat.reduceBEq, Nat.reduceAdd, Nat.reduceLT, Nat.reduceLeDiff, Nat.reduceEqDiff, reduceIte, Int.reduceEq, reduceCtorEq, g1, g3, g9, g10, g11, g16, g17, g18, f1, AI, hgp, pld, FY, pc3, hq4, d5, k0, k1, e1, hC, hwj]
               exact ⟨z - 1, by omega, j + 1, a, by omega, by rw [hsn]; exact hD5, rfl, rfl⟩
             | false =>
               have hrt := key true (by rw [hc]; simp only [hk]; rfl) hv
               rw [if_pos rfl] at hrt
               rw [hrt, Option.toList_some] at hsn
               rw [hk] at hC
               simp only [go_sem, AE, AA, AC, AB, KB_n, KB_x, Nat.reduceBEq, Nat.reduceAdd, Nat.reduceLT, Nat.reduceLeDiff, Nat.reduceEqDiff, reduceIte, Int.reduceEq, reduceCtorEq, g1, g3, g9, g10, g11, g16, g17, g18, f1, AI, hgp, pld, FY, pc3, hq4, d5, k0, k1, e1, hC, hal, d6, hwj]
               exact ⟨z - 1, by omega, j + 1, a', by omega, by rw [hsn, ← List.append_assoc, ← Ky]; exact hD6, rfl, rfl⟩
           · have e1 : ((p.text.length : Int) = 1) = False := eq_false (by omega)
             have hrt := key true (by
              split
              · rename_i c hc
                rw [hc] at hl1
                simp at hl1
              · rfl) hv
             rw [if_pos rfl] at hrt
             rw [hrt, Option.toList_some] at hsn
             simp only [go_sem, AE, AA, AC, AB, KB_n, KB_x, Nat.reduceBEq, Nat.reduceAdd, Nat.reduceLT, Nat.reduceLeDiff, Nat.reduceEqDiff, reduceIte, Int.reduceEq, reduceCtorEq, g1, g3, g9, g10, g11, g16, g17, g18, f1, AI, hgp, pld, FY, pc3, hq4, d5, k0, k1, e1, hal, d6, hwj]
             exact ⟨z - 1, by omega, j + 1, a', by omega, by rw [hsn, ← List.append_assoc, ← Ky]; exact hD6, rfl, rfl⟩
       · have f1 : ((j : Int) < (y.parts.length : Int)) = False := eq_false (by omega)
         simp only [go_sem, AE, AA, AC, AB, KB_n, KB_x, Nat.reduceBEq, Nat.reduceAdd, Nat.reduceLT, Nat.reduceLeDiff, Nat.reduceEqDiff, reduceIte, Int.reduceEq, reduceCtorEq, g1, g3, g9, g10, g11, g16, g17, g18, f1, hw1]
         rw [show y.parts.take j = y.parts from List.take_of_length_le (by omega), ← Kx hy] at H
         exact ⟨x - 1, by omega, i + 1, a, by omega, H, rfl, rfl⟩
     · simp only [go_sem, AE, AA, AC, AB, KB_n, KB_x, Nat.reduceBEq, Nat.reduceAdd, Nat.reduceLT, Nat.reduceLeDiff, Nat.reduceEqDiff, reduceIte, Int.reduceEq, reduceCtorEq, g1, g3, g9, g10, g11]
       exact ⟨0, a, by omega, by simpa using H3.dropB, rfl, rfl⟩
   · have h1 : ((i : Int) < (n.items.length : Int)) = False := eq_false (by omega)
     rw [List.take_of_length_le (by omega)] at H
     obtain ⟨a', q', d', t', H', n'⟩ := H.pub 0 rfl
     have dA : pubA q a = some (a', q') := by
      rw [MQ (H.rows (i := 0) rfl)]; exact d'
     simp only [go_sem, AE, AA, AC, AB, KB_n, KB_x, Nat.reduceBEq, Nat.reduceAdd, Nat.reduceLT, Nat.reduceLeDiff, Nat.reduceEqDiff, reduceIte, Int.reduceEq, reduceCtorEq, g3, g9, g10, g11, h1, dA]
     refine AM H'.over ?_ ?_
     · simp only [Ca]; exact t'.refs (ID _)
     · simp only [Ca, wkZ, t'.wk (Jn _)]
 · simp only [go_sem, AE, AA, AC, AB, KB_n, KB_x, Nat.reduceBEq, Nat.reduceAdd, Nat.reduceLT, Nat.reduceLeDiff, Nat.reduceEqDiff, reduceIte, Int.reduceEq, reduceCtorEq]
   exact ⟨0, .nsl, by omega, H1.addFull 1 9 true .nil, rfl, rfl⟩

def RN (t0 Tb id : Nat) (xs : List (List Nat)) (C : Nat → St → Prop) (q : St) : Prop := ∃ a, q.box? id = some (.cells Tb [a]) ∧ RowH t0 q ⟨1, 9, a, xs.map .s, true⟩ ∧ (∀ k, BA a = some k → C k q) ∧ (BA a ≠ none ∨ (a = .nsl ∧ xs = []))
section
variable {t0 Tb id h : Nat} {xs : List (List Nat)} {C : Nat → St → Prop} {q q' s : St} {O : Nat → Prop}
theorem RN.stab (hC : TokSafe h C) (r : RN t0 Tb id xs C q) (hid : id < h) (hO : ¬ O id) {hh : Nat} (hh1 : h ≤ hh) (f : Fq O hh q q') : RN t0 Tb id xs C q' := by
 obtain ⟨a, h1, h2, h3, h4⟩ := r
 refine ⟨a, by rw [f.box id (by omega) hO]; exact h1, ?_, fun k hk => hC.mono k q _ (h3 k hk) f.lo, h4⟩
 exact h2.mono f.tok.1 fun k hk => f.tok.2 k (h2.tok_lt hk)
theorem RN.enter (r : RN t0 Tb id xs C q) : RN t0 Tb id xs (Cin h C q) q.enter := by
 obtain ⟨a, h1, h2, h3, h4⟩ := r
 exact ⟨a, h1, h2.mono (Nat.le_refl _) fun _ _ => rfl, fun k hk => .inl ⟨h3 k hk, h2.tok_lt hk⟩, h4⟩
theorem RN.leave (hC : TokSafe h C) (r : RN t0 Tb id xs (Cin h C s) q) (hid : id < s.nb) (hs : h ≤ s.nb) (hn : s.nb ≤ q.nb) (ht : s.nt ≤ q.nt) (hw : Wf q) {v : AV} (hv : v.refs = false) : RN t0 Tb id xs C (Am.leave s q v) := by
 obtain ⟨a, h1, h2, h3, h5⟩ := r
 refine ⟨a, by rw [Dw hw hn (by omega)]; exact h1, ?_, fun k hk => (IV hC hw hs hn ht hv (h2.tok_lt hk) (h3 k hk)).1, h5⟩
 rcases h2 with h2 | ⟨k, v', t, h, k1, k2, k3, k4⟩
 · exact .inl h2
 · simp only at h; subst h
   obtain ⟨_, z2, z3⟩ := IV hC hw hs hn ht hv k2 (h3 k rfl)
   exact .inr ⟨k, v', t, rfl, k1, z2, by rw [z3]; exact k3, k4⟩
end
theorem Ro : ∀ L : List (List Nat), EY (L.map AV.s) (L.map AV.s) = true
 | [] => rfl
 | z :: L => by simp [List.map_cons, EY, beqA, Ro L, Ic]
theorem Rp {t0 : Nat} {q : St} {a : AV} {xs : List (List Nat)} {T : Nat} {fr : Bool} (h : RowH t0 q ⟨1, T, a, xs.map .s, fr⟩) : still a = true := by
 rcases h with (⟨h, _⟩ | ⟨h, _⟩ | h | h) | ⟨k, v, t, h, _⟩ <;> simp only at h <;> rw [h] <;> simp [still, beqA, Ro]
theorem Tc {t0 : Nat} {q : St} {a : AV} {xs : List AV} {es T : Nat} {fr : Bool} (h : RowH t0 q ⟨es, T, a, xs, fr⟩) {k : Nat} (hk : BA a = some k) : a.refs = true := by
 rcases h with h | ⟨k', v, t, h, _⟩
 · rw [Er h] at hk; cases hk
 · simp only at h; rw [h]; rfl
abbrev nA : C := subC Ce.body [1, 1, 0, 1, 0, 0]
abbrev nC : C := subC Ce.body [1, 1, 0, 1, 0, 1]
theorem Rq {s : St} {L : List (Nat × IN)} {F : IN → List (List Nat)} {f ob fb : Nat} {O : Nat → Prop} {k1 : Nat} {e : Tr} (hx : ob < k1) (hy : fb < k1) (hne : ob ≠ fb) (hs : s.nb ≤ ob) (hs2 : s.nb ≤ fb) (g3 : e.get 3 = .p fb 0) (g5 : e.get 5 = .p ob 0)
    (hF : ∀ x ∈ L, ∀ q, Wf q → (lim prog).call f [.agg x.2.cells] q = some (tx (F x.2), q)) (hsz : (L.flatMap fun x => F x.2).length < 2 ^ 36) (hO : ∀ j, O j → j < k1 ∧ j ≠ ob ∧ j ≠ fb) (hO2 : ∀ j, O j → s.nb ≤ j) :
    BodyG prog O s (k1 + 1) (k1 + 1) (.yld k1) (alV L) (fun C j q => q.box? k1 = some (.loop 0 none e [10, 11] nA nC) ∧ q.box? fb = some (.cells 39 [.fn f []]) ∧ RN s.nt 26 ob ((L.take j).flatMap fun x => F x.2) C q) (fun _ => False) where
 stab := fun C j q q' hC ⟨h1, h2, h3⟩ fq => ⟨by rw [fq.box _ (by omega) fun h => by have := (hO _ h).1; omega]; exact h1, by rw [fq.box _ (by omega) fun h => (hO _ h).2.2 rfl]; exact h2, h3.stab hC (by omega) (fun h => (hO _ h).2.1 rfl) (Nat.le_refl _) fq⟩
 enter := fun C j q _ ⟨h1, h2, h3⟩ _ => ⟨h1, h2, h3.enter⟩
 leave := fun C j s q v hC ⟨h1, h2, h3⟩ hs hn ht hw hv => ⟨by rw [Dw hw hn (by omega)]; exact h1, by rw [Dw hw hn (by omega)]; exact h2, h3.leave hC (by omega) hs hn ht hw hv⟩
 stabR := fun q q' h _ => h.elim
 leaveR := fun s q v h _ _ _ _ _ => h.elim
 step := by
  intro C j hj q hC ⟨hk, hfb, hrn⟩ hov hw hh
  have hj' : j < L.length := by simpa [alV] using hj
  obtain ⟨x, hx'⟩ : ∃ x, L[j]? = some x := ⟨_, List.getElem?_eq_getElem hj'⟩
  have hxm := List.mem_of_getElem? hx'
  have hLj : (alV L)[j] = [.i .i64 (x.1 : Nat), .agg x.2.cells] := by
   rw [List.getElem?_eq_getElem hj'] at hx'
   simp only [alV, List.getElem_map]
   rw [Option.some.inj hx']
  have htk : (L.take (j + 1)).flatMap (fun x => F x.2) = ((L.take j).flatMap fun x => F x.2) ++ F x.2 := by
   rw [List.getElem?_eq_some_iff] at hx'
   obtain ⟨_, rfl⟩ := hx'
   rw [List.take_succ_eq_append_getElem hj', List.flatMap_append]
   simp
  have hszj : ((L.take j).flatMap (fun x => F x.2) ++ F x.2).length < 2 ^ 36 := by
   rw [← htk]
   have : (L.flatMap fun x => F x.2) = ((L.take (j + 1)).flatMap fun x => F x.2) ++ ((L.drop (j + 1)).flatMap fun x => F x.2) := by
    rw [← List.flatMap_append, List.take_append_drop]
   rw [this, List.length_append] at hsz
   omega
  rw [List.length_append] at hszj
  rw [hLj]
  obtain ⟨q0, st0, w0, nb0, nt0, bx0n, bx0, ov0, fr0⟩ := Q4 (q := q) hw (T := 25) (m := 4) (z := zI) (v := .agg x.2.cells) rfl ⟨nc4 _, no4 _⟩ (OY x.2)
  obtain ⟨q1, hq1⟩ : ∃ q1, q0.setBox k1 (.loop 1 none e [10, 11] nA nC) = q1 := ⟨_, rfl⟩
  have w1 : Wf q1 := by rw [← hq1]; exact w0.setBox _ _
  have nb1 : q1.nb = q.nb + 1 ∧ q1.nt = q.nt := by rw [← hq1]; exact ⟨nb0, nt0⟩
  have bx1 : ∀ i, q1.box? i = if i = k1 then some (.loop 1 none e [10, 11] nA nC) else q0.box? i := fun i => by rw [← hq1]; exact setBox_box? w0.b (by omega) i
  have ov0 := ov0 s hov
  have ov1 : Over s q1 := by rw [← hq1]; exact Over.setBox ov0 (by omega) (by omega) _
  have b1k := bx1 k1
  rw [if_pos rfl] at b1k
  have fr1 : Fq (fun _ => False) k1 q q1 := by
   have f3 : Fq (fun _ => False) k1 q0 q1 := by rw [← hq1]; exact Fq.setBox w0 (by omega) (.inl (Nat.le_refl _)) (by omega) _
   exact (fr0 _ k1 (by omega)).trans f3
  have b1f : q1.box? fb = some (.cells 39 [.fn f []]) := by rw [bx1, if_neg (by omega), bx0 _ (by omega)]; exact hfb
  have hrn1 := hrn.stab (hC.weaken (by omega : k1 ≤ k1 + 1)) hx (fun h => h) (Nat.le_refl _) fr1
  obtain ⟨a, ha1, ha2, ha3, ha4⟩ := hrn1
  have lda := F0 (s := q1) (v := a) (off := 0) ha1 rfl
  have ldf := F0 (s := q1) (v := .fn f []) (off := 0) b1f rfl
  have b1n : q1.box? q.nb = some (.cells 25 (AV.agg x.2.cells).cells) := by rw [bx1, if_neg (by omega)]; exact bx0n
  have ldx : ldA q1 true 4 (.p q.nb 0) = some (.agg x.2.cells) := by
   simp only [ldA, St.cells?, b1n]; rfl
  have hcall : EZ (lim prog) (.fn f []) [.agg x.2.cells] q1 = some (tx (F x.2), q1) := hF x hxm q1 w1
  have hlr : ldR q1 (some a) = some (a, q1) := by
   rcases ha2 with (⟨h, _⟩ | ⟨h, _⟩ | h | h) | ⟨k, v, t, h, _⟩ <;> simp only at h <;> rw [h] <;> rfl
  have hlq : ldQ (some a) = true := by
   rcases ha2 with (⟨h, _⟩ | ⟨h, _⟩ | h | h) | ⟨k, v, t, h, _⟩ <;> simp only at h <;> rw [h] <;> rfl
  have hkO : ¬ O k1 := fun h => by have := (hO _ h).1; omega
  obtain ⟨rest, H, hrest⟩ := UB w1 ov1 [(ob, .cells 26 [a]), (fb, .cells 39 [.fn f []]), (k1, .loop 1 none e [10, 11] nA nC)] (by
   intro p hp
   simp only [List.mem_cons, List.not_mem_nil, or_false] at hp
   rcases hp with rfl | rfl | rfl
   · exact ⟨ha1, hs⟩
   · exact ⟨b1f, hs2⟩
   · exact ⟨b1k, by simp only; omega⟩) (by simp; omega)
  have H := H.addRow ha2
  obtain ⟨a', q2, d2, H2, n2, ha5⟩ : ∃ a' q2, appA q1 1 9 a (tx (F x.2)) = some (a', q2) ∧ Hp s q2 ⟨q1.lo, q1.nb, q1.nt⟩ [⟨1, 9, a', ((L.take j).flatMap (fun x => F x.2) ++ F x.2).map .s, true⟩] ([(ob, .cells 26 [a]), (fb, .cells 39 [.fn f []]), (k1, .loop 1 none e [10, 11] nA nC)] ++ rest) ∧ q2.nb = q1.nb ∧ (BA a' ≠ none ∨ (a' = .nsl ∧ (L.take j).flatMap (fun x => F x.2) ++ F x.2 = [])) := by
   by_cases he : F x.2 = []
   · refine ⟨a, q1, Ov (H.rows (i := 0) rfl) rfl (by rw [he]; rfl), ?_, rfl, ?_⟩
     · rw [he, List.append_nil]; exact H
     · rw [he, List.append_nil]; exact ha4
   · obtain ⟨a', q2, d2, H2, n2, h5⟩ := H.app 0 (y := tx (F x.2)) (ys := (F x.2).map .s) rfl rfl (by rw [List.length_map, List.length_map]; omega)
     refine ⟨a', q2, d2, ?_, n2, .inl (h5 (by simpa using he)).1⟩
     rw [← Ky]
     exact H2
  have rc := H2.rcells 0 rfl
  obtain ⟨q3, d3, H3, n3, lo3⟩ := H2.st 0 (off := 0) (v := a') rfl (by simp) ⟨rc.1, rc.2.1⟩
  simp only [List.cons_append, List.nil_append, List.set_cons_zero] at H3
  have H5 := H3.setBox (i := 2) rfl (.loop 0 none e [10, 11] nA nC)
  simp only [List.set_cons_zero, List.set_cons_succ] at H5
  refine JC ?_
  refine OM (t := (e.set 10 10 (.i .i64 (x.1 : Nat))).set 10 11 (.agg x.2.cells)) hk rfl ?_
  simp only [nA, Ce, subC, go_sem, AE, AA, AC, AB, KB_n, KB_x, Nat.reduceBEq, Nat.reduceAdd, Nat.reduceLT, Nat.reduceLeDiff, Nat.reduceEqDiff, reduceIte, Int.reduceEq, reduceCtorEq, st0]
  refine ⟨_, _, _, _, by rw [bx0 k1 (by omega)]; exact hk, ?_⟩
  rw [hq1]
  simp only [nC, Ce, subC, go_sem, AE, AA, AC, AB, KB_n, KB_x, Nat.reduceBEq, Nat.reduceAdd, Nat.reduceLT, Nat.reduceLeDiff, Nat.reduceEqDiff, reduceIte, Int.reduceEq, reduceCtorEq]
  refine PS rfl ?_
  simp only [go_sem, AE, AA, AC, AB, KB_n, KB_x, Nat.reduceBEq, Nat.reduceAdd, Nat.reduceLT, Nat.reduceLeDiff, Nat.reduceEqDiff, reduceIte, Int.reduceEq, reduceCtorEq, g3, g5, lda, hlr, ldf, ldx, E1, hcall, d2, d3]
  refine ⟨hlq, rfl, ?_⟩
  refine QB rfl (by simp only [go_sem, AE, AA, AC, AB, KB_n, KB_x, Nat.reduceBEq, Nat.reduceAdd, Nat.reduceLT, Nat.reduceLeDiff, Nat.reduceEqDiff, reduceIte, Int.reduceEq, reduceCtorEq, g5]) (Rp ha2) ⟨⟨_, rfl, lda⟩, ⟨_, rfl, lda⟩, ⟨_, rfl, lda⟩, ⟨_, rfl, lda⟩, ⟨_, rfl, lda⟩, ⟨_, rfl, lda⟩, trivial⟩ (Lq ?_)
  simp only [KB_n]
  have nt3 : q1.nt ≤ q3.nt := H3.nt
  have z1 : k1 < q3.nb := by omega
  have z2 : s.nb ≤ k1 := by omega
  have z3 : q.nb ≤ q3.nb := by omega
  have z4 : q.nt ≤ q3.nt := by omega
  have z5 : q3.box? k1 = some (.loop 1 none e [10, 11] nA nC) := (H3.box (i := 2) rfl).1
  refine IU z5 z1 H3.wf H3.over z2 z3 z4 hkO (fun i hi hlt => ?_) (fun _ => ⟨(H5.box (i := 2) rfl).1, (H5.box (i := 1) rfl).1, ⟨a', (H5.box (i := 0) rfl).1, by rw [htk]; exact H5.rows (i := 0) rfl, fun k hk => ?_, by rw [htk]; exact ha5⟩⟩) (fun hh => by simp at hh) (fun i hh => by simp at hh)
  · have h1 : i ≠ k1 := by
     rintro rfl
     rcases hi with hi | hi
     · exact hkO hi
     · omega
    have h2 : i ≠ ob ∧ i ≠ fb := by
     rcases hi with hi | hi
     · exact (hO _ hi).2
     · omega
    rw [Hp.keep (M := [_, _, _]) hrest w1 H3 (by rcases hi with hi | hi; exact hO2 _ hi; omega) (by omega) (fun p hp => by
     simp only [List.mem_cons, List.not_mem_nil, or_false] at hp
     rcases hp with rfl | rfl | rfl <;> simp only <;> omega), bx1, if_neg h1, bx0 i hlt]
  · have h1 := lo3 (Tc (H2.rows (i := 0) rfl) hk)
    refine hC.low k _ ?_
    show q3.lo < k1 + 1
    omega
theorem Kz : ∀ {n : Nat} {l : List AV}, l.length = n → GK 1 n l = l
 | 0, [], _ => rfl
 | n + 1, a :: l, h => by
   simp only [List.length_cons, Nat.add_right_cancel_iff] at h
   rw [GK, if_pos rfl, List.take_succ_cons, List.take_zero, List.drop_succ_cons, List.drop_zero, Kz h]
   rfl
theorem Ij : ∀ L : List (List Nat), ones (L.map AV.s) = true
 | [] => rfl
 | z :: L => Ij L
theorem Nn {args : List AV} {s : St} : (lim prog).call A3 args s = Gz args s := Lo FP rfl
theorem No {args : List AV} {s : St} : (lim prog).call Ap args s = Eb args s := Lo Eh rfl
def Ht (s s' : St) (v : AV) (L : List (List Nat)) : Prop := ∃ q, Over s q ∧ Wf q ∧ s' = { q with lo := min s.lo q.lo } ∧ ((v = .nsl ∧ L = []) ∨ ∃ id Z, v = .bl id 1 0 L.length (L.length + Z.length, false) ∧ q.box? id = some (.row 9 ((L ++ Z).map .s) false 0) ∧ s.nb ≤ id ∧ id < q.nb)
theorem Rr {s s' : St} (h : Over s s') (hw : Wf s') : Ht s { s' with lo := min s.lo s'.lo } .nsl [] := ⟨s', h, hw, rfl, .inl ⟨rfl, rfl⟩⟩
def Hu (L : List (List Nat)) : List (List Nat) := Dx (Dl L)
theorem QJ : ∀ l : List (List UInt8), (Go.Lib.compact l).length ≤ l.length := by
 intro l
 unfold Go.Lib.compact Go.Lib.compactUpTo
 rw [List.length_map]
 have := List.length_filter_le (Go.Lib.keeps l.toArray) (List.range l.length)
 rwa [List.length_range] at this
theorem Mp (L : List (List Nat)) : (Hu L).length ≤ L.length := by
 unfold Hu Dx
 rw [List.length_map]
 have := QJ ((Dl L).map u8s)
 rw [List.length_map, Gy] at this
 exact this
theorem PW (n : IN) (ho : n.Ok) (hb : nodesI n < 2 ^ 61) (F : IN → List (List Nat)) (f : Nat) (hF : ∀ x ∈ allL n 0, ∀ q, Wf q → (lim prog).call f [.agg x.2.cells] q = some (tx (F x.2), q)) (hsz : ((allL n 0).flatMap fun x => F x.2).length < 2 ^ 36) (s : St) (hw : Wf s) :
    ∃ v s', (lim prog).call HR [.agg n.cells, .fn f []] s = some (v, s') ∧ Ht s s' v (Hu ((allL n 0).flatMap fun x => F x.2)) := by
 refine fn_K QF rfl rfl rfl (by rfl) ?_
 have hz0 : wkZ Ce.cin [.agg n.cells, .fn f []] = [.agg n.cells, .fn f []] := by simp [Ce, wkZ, wk, IN.cells, itx]
 rw [hz0]
 have e0 : s.enter.nb = s.nb := rfl
 have H3 := (((Hp.begin hw).new (.cells 25 n.cells)).new (.cells 39 [.fn f []])).new (.cells 26 [.nsl])
 have e1 : (s.enter.new (.cells 25 n.cells)).nb = s.nb + 1 := rfl
 have e2 : ((s.enter.new (.cells 25 n.cells)).new (.cells 39 [.fn f []])).nb = s.nb + 2 := rfl
 obtain ⟨q3, hq3⟩ : ∃ q3, ((s.enter.new (.cells 25 n.cells)).new (.cells 39 [.fn f []])).new (.cells 26 [.nsl]) = q3 := ⟨_, rfl⟩
 have nb3 : q3.nb = s.nb + 3 := by rw [← hq3]; rfl
 rw [hq3, e2, e1, e0] at H3
 have c1 : (AV.fn f []).cells = [.fn f []] := rfl
 have lw := H3.ldw (m := 4) 2 rfl rfl
 obtain ⟨q5, d5, w5, nb5, nt5, bl5, bt5, bx5, ov5, fq5⟩ := Rj (n := n) (d := 0) H3.wf
 have ov5 := ov5 s H3.over
 simp only [Int.natCast_zero] at d5
 simp only [Ce, go_sem, AE, AA, AC, AB, KB_n, KB_x, Nat.reduceBEq, Nat.reduceAdd, Nat.reduceLT, Nat.reduceLeDiff, Nat.reduceEqDiff, reduceIte, Int.reduceEq, reduceCtorEq, nc4, c1, List.length_cons, List.length_nil, hq3, e0, e1, e2, lw, E1, d5]
 refine Um (g := Cv) (caps := [.p (q3.nb + 1) 0, .p q3.nb 0]) (by simp only [go_sem, AE, AA, AC, AB, KB_n, KB_x, Nat.reduceBEq, Nat.reduceAdd, Nat.reduceLT, Nat.reduceLeDiff, Nat.reduceEqDiff, reduceIte, Int.reduceEq, reduceCtorEq]) fun e' he' => ?_
 have z3 : e'.get 3 = .p (s.nb + 1) 0 := by rw [he']; simp only [go_sem, AE, AA, AC, AB, KB_n, KB_x, Nat.reduceBEq, Nat.reduceAdd, Nat.reduceLT, Nat.reduceLeDiff, Nat.reduceEqDiff, reduceIte, Int.reduceEq, reduceCtorEq]
 have z5 : e'.get 5 = .p (s.nb + 2) 0 := by rw [he']; simp only [go_sem, AE, AA, AC, AB, KB_n, KB_x, Nat.reduceBEq, Nat.reduceAdd, Nat.reduceLT, Nat.reduceLeDiff, Nat.reduceEqDiff, reduceIte, Int.reduceEq, reduceCtorEq]
 clear he'
 obtain ⟨q6, hq6⟩ : ∃ q6, q5.new (.loop 0 none e' [10, 11] nA nC) = q6 := ⟨_, rfl⟩
 have w6 : Wf q6 := by rw [← hq6]; exact w5.new _
 have nb6 : q6.nb = q5.nb + 1 := by rw [← hq6]; rfl
 have ov6 : Over s q6 := by rw [← hq6]; exact ov5.new _
 have bx6 : ∀ i, i < q5.nb → q6.box? i = q5.box? i := fun i hi => by rw [← hq6]; exact CK hi
 have bk6 : q6.box? q5.nb = some (.loop 0 none e' [10, 11] nA nC) := by rw [← hq6]; exact BJ q5 _
 have B := Rq (s := s) (L := allL n 0) (F := F) (f := f) (ob := s.nb + 2) (fb := s.nb + 1) (k1 := q5.nb) (e := e') (O := fun j => j = q3.nb + 1 ∨ j = q3.nb) (by omega) (by omega) (by omega) (by omega) (by omega) z3 z5 hF hsz (fun j hj => by omega) (fun j hj => by omega)
 have b0 := (H3.box (i := 0) rfl).1
 have b1 := (H3.box (i := 1) rfl).1
 simp only at b0 b1
 obtain ⟨q7, d7, ov7, w7, nb7, nt7, hres7⟩ := Rl n ho 0 (by omega) (s := q6) (xb := q3.nb + 1) (lb := q3.nb) (by rw [bx6 _ (by omega)]; exact bt5) (by rw [bx6 _ (by omega)]; exact bl5) (by omega) (by omega)
  s (q5.nb + 1) (q5.nb + 1) q5.nb _ _ (C0 (q5.nb + 1) 0) (C0.safe _ _) (Nat.le_refl _) B ⟨bk6, by rw [bx6 _ (by omega), bx5 _ (by omega)]; exact b1, .nsl, by rw [bx6 _ (by omega), bx5 _ (by omega)]; exact b0, .inl .nil, (fun k hk => by simp [BA] at hk), .inr ⟨rfl, rfl⟩⟩ ov6 w6 (by omega) (by omega)
 rw [← hq6] at d7
 rcases hres7 with ⟨hk7, _, hrn⟩ | h
 case inr => exact h.elim
 refine ⟨_, q7, d7, _, _, _, _, _, _, hk7, by decide, ?_⟩
 have hlen : (alV (allL n 0)).length = (allL n 0).length := by simp [alV]
 rw [hlen, List.take_length] at hrn
 obtain ⟨M, hM⟩ : ∃ M, ((allL n 0).flatMap fun x => F x.2) = M := ⟨_, rfl⟩
 rw [hM] at hrn hsz ⊢
 have fq7 : Fq (fun _ => False) q5.nb q7 (q7.setBox q5.nb .used) := Fq.setBox w7 (by omega) (.inl (Nat.le_refl _)) (by omega) _
 obtain ⟨q8, hq8⟩ : ∃ q8, q7.setBox q5.nb .used = q8 := ⟨_, rfl⟩
 rw [hq8] at fq7
 have w8 : Wf q8 := by rw [← hq8]; exact w7.setBox _ _
 have ov8 : Over s q8 := by rw [← hq8]; exact Over.setBox ov7 (by omega) (by omega) _
 obtain ⟨a, k1, k2, _, k4⟩ := hrn
 have k1 : q8.box? (s.nb + 2) = some (.cells 26 [a]) := by rw [fq7.box _ (by omega) (fun h => h)]; exact k1
 have k2 := k2.mono fq7.tok.1 fun k hk => fq7.tok.2 k (k2.tok_lt hk)
 obtain ⟨rest, H8, _⟩ := UB w8 ov8 [(s.nb + 2, .cells 26 [a])] (by
  intro p hp
  simp only [List.mem_cons, List.not_mem_nil, or_false] at hp
  subst hp
  exact ⟨k1, by simp only; omega⟩) (by simp)
 have H8 := H8.addRow k2
 rcases k4 with k4 | ⟨rfl, hnil⟩
 case inr =>
  have hth : He q8 (.p (s.nb + 2) 0) = some (.p (s.nb + 2) 0, q8) := by simp [He, k1]
  have la := F0 (s := q8) (v := .nsl) (off := 0) k1 rfl
  have hs : (lim prog).call A3 [.nsl] q8 = some (.tup [], q8) := Nn.trans rfl
  have hcm : (lim prog).call Ap [.nsl] q8 = some (.nsl, q8) := No.trans rfl
  simp only [hq8, go_sem, AE, AA, AC, AB, KB_n, KB_x, Nat.reduceBEq, Nat.reduceAdd, Nat.reduceLT, Nat.reduceLeDiff, Nat.reduceEqDiff, reduceIte, Int.reduceEq, reduceCtorEq, z5, hth, la, hs, hcm]
  have hon : Hu M = [] := by rw [hnil]; simp [Hu, Dl, Dx, Go.Lib.compact, Go.Lib.compactUpTo]
  rw [hon]
  exact Rr ov8 w8
 obtain ⟨q9, d9, H9, n9⟩ := H8.thaw 0 rfl k4 [] (by simp) (by simp)
 simp only [List.length_map, Nat.mul_one, Iy, List.cons_append, List.nil_append] at d9 H9
 obtain ⟨v9, hv9⟩ : ∃ v9, AV.bl q8.nb 1 0 M.length (M.length, false) = v9 := ⟨_, rfl⟩
 have H10 := ((H9.setBox (i := 1) rfl (.cells 26 [v9])).esc (i := 1) rfl v9).1
 obtain ⟨q10, hq10⟩ : ∃ q10, Am.esc (q9.setBox (s.nb + 2) (.cells 26 [v9])) (s.nb + 2) v9 = q10 := ⟨_, rfl⟩
 rw [hq10] at H10
 simp only [List.set_cons_zero, List.set_cons_succ] at H10
 have hth : He q8 (.p (s.nb + 2) 0) = some (.p (s.nb + 2) 0, q10) := by
  obtain ⟨k, v, t, ha, _⟩ : ∃ k v t, a = .sl 1 (M.map .s) (.tok k v) ∧ t = (0 : Nat) := by
   rcases k2 with h | ⟨k, v, t, h, _⟩
   · exact absurd (Er h) k4
   · exact ⟨k, v, 0, h, rfl⟩
  subst ha
  have d9' : OA q8 (.sl 1 (M.map .s) (.tok k v)) = some (v9, q9) := by rw [← hv9]; exact d9
  simp only [He, k1, List.getElem?_cons_zero, d9', List.set_cons_zero, hq10]
 have la := H10.ld 1 (off := 0) (v := v9) rfl rfl
 have hM62 : M.length < 4611686018427387904 := by omega
 obtain ⟨q11, d11, H11, n11⟩ := H10.sort 0 rfl hM62 (M.length, false)
 have hs : (lim prog).call A3 [v9] q10 = some (.tup [], q11) := by rw [← hv9]; exact Nn.trans d11
 simp only [List.set_cons_zero] at H11
 have hth2 : He q11 (.p (s.nb + 2) 0) = some (.p (s.nb + 2) 0, q11) := by
  have hbx := (H11.box (i := 1) rfl).1
  simp only at hbx
  rw [← hv9] at hbx
  simp [He, hbx]
 have la2 := H11.ld 1 (off := 0) (v := v9) rfl rfl
 obtain ⟨q12, d12, H12, n12⟩ := H11.compact 0 rfl (by rw [Gy]; exact hM62) (by rw [Gy]; exact Mp M) (M.length, false)
 rw [Gy] at d12 H12
 have hcm : (lim prog).call Ap [v9] q11 = some (.bl q8.nb 1 0 (Dx (Dl M)).length (M.length, false), q12) := by rw [← hv9]; exact No.trans d12
 have hbx := (H12.box (i := 0) rfl).1
 simp only at hbx
 have hlv : ∀ u, ldR u (some v9) = some (v9, u) := fun u => by rw [← hv9]; rfl
 have hpv9 : ∀ u, Am.pub u v9 = some (v9, u) := fun u => by rw [← hv9]; rfl
 simp only [hq8, go_sem, AE, AA, AC, AB, KB_n, KB_x, Nat.reduceBEq, Nat.reduceAdd, Nat.reduceLT, Nat.reduceLeDiff, Nat.reduceEqDiff, reduceIte, Int.reduceEq, reduceCtorEq, z5, hth, la, hlv, hpv9, hs, hth2, la2, hcm]
 have hcl : (Dx (Dl M)).length ≤ M.length := Mp M
 refine ⟨q12, H12.over, H12.wf, rfl, .inr ⟨q8.nb, List.replicate (M.length - (Dx (Dl M)).length) [], ?_, hbx, ov8.nb, ?_⟩⟩
 · rw [List.length_replicate]
   show AV.bl q8.nb 1 0 (Dx (Dl M)).length (M.length, false) = .bl q8.nb 1 0 (Dx (Dl M)).length ((Dx (Dl M)).length + (M.length - (Dx (Dl M)).length), false)
   rw [show (Dx (Dl M)).length + (M.length - (Dx (Dl M)).length) = M.length by omega]
 have := (H12.box (i := 0) rfl).2.2
 exact this
end Go.Proofs.YtmnbfgfgjmmhfaaGreatDoor

namespace Go.Proofs.YtmnbfgfgjmmhfaaGreatDoor
open Go.Proofs.YtmnbfgfgjmmhfaaGreatDoor.Am
attribute [local irreducible] W WO WE WQ WD Tr.get Tr.set
section
variable {s0 s : St} {n : En} {R : List RA} {B : List (Nat × Box)}
theorem _root_.Go.Proofs.YtmnbfgfgjmmhfaaGreatDoor.Am.Hp.slc (H : Hp s0 s n R B) (i : Nat) {es T : Nat} {a : AV} {xs : List AV} {fr : Bool} (h : R[i]? = some ⟨es, T, a, xs, fr⟩) {lo hi : Option AV} {p q : Nat} (hb : Bl xs.length lo hi = some (p, q)) :
    ∃ a' s', Bg s false es a lo hi none = some (a', s') ∧ elems s' es a' = some ((xs.drop p).take (q - p)) ∧ (Ds es a' ((xs.drop p).take (q - p)) ∨ (a' = a ∧ (xs.drop p).take (q - p) = xs)) ∧ (∃ fr', Hp s0 s' n (R.set i ⟨es, T, a, xs, fr'⟩) B) ∧ s'.nb = s.nb := by
 have hself : R.set i ⟨es, T, a, xs, fr⟩ = R := by
  apply List.ext_getElem?
  intro j
  rw [List.getElem?_set]
  by_cases hj : i = j
  · subst hj
    rw [if_pos rfl, if_pos (List.getElem?_eq_some_iff.1 h).1, h]
  · rw [if_neg hj]
 have hH : ∃ fr', Hp s0 s n (R.set i ⟨es, T, a, xs, fr'⟩) B := ⟨fr, by rw [hself]; exact H⟩
 have hbl : ∀ {p q : Nat}, Bl 0 lo hi = some (p, q) → p = 0 ∧ q = 0 := by
  intro p q hh
  unfold Bl at hh
  simp only at hh
  split at hh
  · split at hh
    · rename_i hq
      cases hh
      omega
    · cases hh
  · cases hh
 rcases H.rows h with (⟨h1, h2⟩ | ⟨h1, h2⟩ | h1 | h1) | ⟨k, v, t, ha, k1, k2, k3, k4, k5, k6, k7⟩
 · simp only at h1 h2; subst h1; subst h2
   rw [List.length_nil] at hb
   obtain ⟨rfl, rfl⟩ := hbl hb
   exact ⟨.nsl, s, by simp only [Bg, hb], rfl, .inl (.inl ⟨rfl, rfl⟩), hH, rfl⟩
 · simp only at h1 h2; subst h1; subst h2
   rw [List.length_nil] at hb
   obtain ⟨rfl, rfl⟩ := hbl hb
   exact ⟨.wz, s, by simp only [Bg, hb], rfl, .inl (.inr (.inl ⟨rfl, rfl⟩)), hH, rfl⟩
 · simp only at h1; subst h1
   by_cases hw : p = 0 ∧ q = xs.length
   · have hys : (xs.drop p).take (q - p) = xs := by rw [hw.1, hw.2]; simp
     refine ⟨.sl es xs .full, s, ?_, ?_, .inr ⟨rfl, hys⟩, hH, rfl⟩
     · simp only [Bg, if_true, hb]
       rw [if_pos hw]
     · rw [hys]; simp [elems, St.ok]
   · by_cases hq : q = xs.length
     · refine ⟨.sl es ((xs.drop p).take (q - p)) .full, s, ?_, by simp [elems, St.ok], .inl (.inr (.inr (.inl rfl))), hH, rfl⟩
       simp only [Bg, if_true, hb]
       rw [if_neg hw, if_pos hq]
     · refine ⟨.sl es ((xs.drop p).take (q - p)) .shut, s, ?_, by simp [elems, St.ok], .inl (.inr (.inr (.inr (.inl rfl)))), hH, rfl⟩
       simp only [Bg, if_true, hb]
       rw [if_neg hw, if_neg hq]
 · simp only at h1; subst h1
   by_cases hw : p = 0 ∧ q = xs.length
   · have hys : (xs.drop p).take (q - p) = xs := by rw [hw.1, hw.2]; simp
     refine ⟨.ws true es xs, s, ?_, ?_, .inr ⟨rfl, hys⟩, hH, rfl⟩
     · simp only [Bg, if_true, hb]
       rw [if_pos hw]
     · rw [hys]; simp [elems]
   · refine ⟨.ws false es ((xs.drop p).take (q - p)), s, ?_, by simp [elems], .inl (.inr (.inr (.inr (.inr (.inr rfl))))), hH, rfl⟩
     simp only [Bg, if_true, hb]
     rw [if_neg hw]
 · simp only at ha k5 k6 k7
   subst ha
   by_cases hw : p = 0 ∧ q = xs.length
   · have hys : (xs.drop p).take (q - p) = xs := by rw [hw.1, hw.2]; simp
     refine ⟨.sl es xs (.tok k v), s, ?_, ?_, .inr ⟨rfl, hys⟩, hH, rfl⟩
     · simp only [Bg, if_true, hb]
       rw [if_pos hw]
     · rw [hys]; simp [elems, St.ok, k3, k4]
   · refine ⟨.sl es ((xs.drop p).take (q - p)) .shut, s.setTok k { t with pub := max t.pub xs.length }, ?_, by simp [elems, St.ok], .inl (.inr (.inr (.inr (.inl rfl)))), ⟨false, ?_⟩, rfl⟩
     · simp only [Bg, if_true, hb, k3, k4, Bool.false_and, Bool.false_eq_true, if_false]
       rw [if_neg hw]
     · exact H.setTok h rfl k3 xs { t with pub := max t.pub xs.length } v false k4 k5 rfl (fun hh => by cases hh)
end
theorem K0 : ∀ (a b : List Nat), (ltN a b || beqN a b) = !ltN b a
 | [], [] => rfl
 | [], _ :: _ => rfl
 | _ :: _, [] => rfl
 | a :: x, b :: y => by
   have := K0 x y
   simp only [ltN, beqN]
   rcases Nat.lt_trichotomy a b with h | h | h
   · have e1 : Nat.blt a b = true := by rw [Nat.blt_eq]; exact h
     have e2 : Nat.blt b a = false := by rw [Bool.eq_false_iff]; intro hh; rw [Nat.blt_eq] at hh; omega
     have e3 : Nat.beq b a = false := by rw [Bool.eq_false_iff]; intro hh; rw [Nat.beq_eq] at hh; omega
     simp [e1, e2, e3]
   · subst h
     have e1 : Nat.blt a a = false := by rw [Bool.eq_false_iff]; intro hh; rw [Nat.blt_eq] at hh; omega
     simp only [e1, Nat.beq_refl, Bool.true_and, Bool.false_or, this]
   · have e1 : Nat.blt b a = true := by rw [Nat.blt_eq]; exact h
     have e2 : Nat.blt a b = false := by rw [Bool.eq_false_iff]; intro hh; rw [Nat.blt_eq] at hh; omega
     have e3 : Nat.beq a b = false := by rw [Bool.eq_false_iff]; intro hh; rw [Nat.beq_eq] at hh; omega
     simp [e1, e2, e3]
theorem Mq : ∀ a : List Nat, ltN a a = false
 | [] => rfl
 | c :: a => by
   have : Nat.blt c c = false := by rw [Bool.eq_false_iff]; intro h; rw [Nat.blt_eq] at h; omega
   simp only [ltN, this, Mq a, Bool.and_false, Bool.or_self]
theorem Ik : ∀ {a b c : List Nat}, ltN a b = true → ltN b c = true → ltN a c = true
 | [], [], c, h, _ => by simp [ltN] at h
 | [], b :: m, [], _, h => by simp [ltN] at h
 | [], b :: m, c :: r, _, _ => rfl
 | a :: l, [], _, h, _ => by simp [ltN] at h
 | a :: l, b :: m, [], _, h => by simp [ltN] at h
 | a :: l, b :: m, c :: r, h1, h2 => by
   simp only [ltN, Bool.or_eq_true, Bool.and_eq_true, Nat.blt_eq, Nat.beq_eq] at h1 h2 ⊢
   rcases h1 with h1 | ⟨h1, h1'⟩ <;> rcases h2 with h2 | ⟨h2, h2'⟩
   · exact .inl (by omega)
   · exact .inl (by omega)
   · exact .inl (by omega)
   · exact .inr ⟨by omega, Ik h1' h2'⟩
theorem UG (x y : List Nat) : Am.binOp .gtr (.s x) (.s y) = some (.b (ltN y x)) := by
 have h := K0 x y
 simp only [Am.binOp, N8, h, Bool.not_not]
theorem HT {z x : List Nat} (h : ltN x z = false) (hne : ¬ z = x) : ltN z x = true := by
 have h1 := K0 z x
 rw [h, IY, decide_eq_false hne] at h1
 simpa using h1
theorem Ls : ∀ {a b : List (List Nat)}, a.Pairwise (fun x y => ltN x y = true) → b.Pairwise (fun x y => ltN x y = true) → (∀ x, x ∈ a ↔ x ∈ b) → a = b
 | [], [], _, _, _ => rfl
 | [], y :: b, _, _, h => by have := (h y).2 (by simp); simp at this
 | x :: a, [], _, _, h => by have := (h x).1 (by simp); simp at this
 | x :: a, y :: b, ha, hb, h => by
   rw [List.pairwise_cons] at ha hb
   have hxy : x = y := by
    rcases List.mem_cons.1 ((h x).1 (by simp)) with e | h1
    · exact e
    · rcases List.mem_cons.1 ((h y).2 (by simp)) with e | h2
      · exact e.symm
      · have h3 := Ik (hb.1 x h1) (ha.1 y h2)
        rw [Mq] at h3; cases h3
   subst hxy
   rw [Ls ha.2 hb.2 fun z => ?_]
   have hz := h z
   constructor
   · intro hm
     rcases List.mem_cons.1 (hz.1 (by simp [hm])) with rfl | h1
     · have := ha.1 z hm
       rw [Mq] at this; cases this
     · exact h1
   · intro hm
     rcases List.mem_cons.1 (hz.2 (by simp [hm])) with rfl | h1
     · have := hb.1 z hm
       rw [Mq] at this; cases this
     · exact h1
theorem putT {L : List (List Nat)} {x : List Nat} {a : Nat} (hs : L.Pairwise fun x y => ltN x y = true) (ha : a ≤ L.length) (h1 : ∀ j y, a ≤ j → L[j]? = some y → ltN x y = true) (h2 : a = 0 ∨ ∃ y, L[a - 1]? = some y ∧ ltN y x = true) : (L.take a ++ ([x] ++ L.drop a)).Pairwise (fun x y => ltN x y = true) ∧ ∀ y, y ∈ L.take a ++ ([x] ++ L.drop a) ↔ y ∈ L ∨ y = x := by
 constructor
 · have hd : ∀ z ∈ L.drop a, ltN x z = true := fun z hz => by
    obtain ⟨j, hj, rfl⟩ := List.mem_iff_getElem.1 hz
    rw [List.getElem_drop]
    rw [List.length_drop] at hj
    exact h1 (a + j) _ (by omega) (List.getElem?_eq_getElem (by omega))
   have ht : ∀ y ∈ L.take a, ltN y x = true := fun y hy => by
    rcases h2 with rfl | ⟨w, hw, hwx⟩
    · simp at hy
    · obtain ⟨j, hj, rfl⟩ := List.mem_iff_getElem.1 hy
      rw [List.length_take] at hj
      rw [List.getElem_take]
      obtain ⟨hlt, hwe⟩ := List.getElem?_eq_some_iff.1 hw
      by_cases hja : j = a - 1
      · subst hja; rw [hwe]; exact hwx
      · have := List.pairwise_iff_getElem.1 hs j (a - 1) (by omega) hlt (by omega)
        rw [hwe] at this
        exact Ik this hwx
   rw [List.pairwise_append]
   refine ⟨hs.sublist (List.take_sublist a L), ?_, fun y hy z hz => ?_⟩
   · rw [List.singleton_append, List.pairwise_cons]
     exact ⟨hd, hs.sublist (List.drop_sublist a L)⟩
   · rcases List.mem_append.1 hz with hz | hz
     · rw [List.mem_singleton.1 hz]; exact ht y hy
     · exact Ik (ht y hy) (hd z hz)
 · intro y
   have : L = L.take a ++ L.drop a := (List.take_append_drop a L).symm
   conv => rhs; rw [this]
   simp only [List.mem_append, List.mem_singleton]
   constructor
   · rintro (h | h | h)
     · exact .inl (.inl h)
     · exact .inr h
     · exact .inl (.inr h)
   · rintro ((h | h) | h)
     · exact .inl h
     · exact .inr (.inr h)
     · exact .inr (.inl h)
theorem PX {t0 : Nat} {s : St} {r : RA} (h : RowH t0 s r) (q : St) : lenA q 1 r.a = some (.i .i64 (r.xs.length : Nat)) := by
 rcases h with (⟨h, h2⟩ | ⟨h, h2⟩ | h | h) | ⟨k, v, t, h, _⟩ <;> rw [h] <;> (try rw [h2]) <;> rfl
theorem Jt {L : List (List Nat)} {i : Nat} {x : List Nat} (h : L[i]? = some x) : (L.map AV.s)[i]? = some (.s x) := by rw [List.getElem?_map, h]; rfl
theorem Vd {s q : St} {n : En} {a : AV} {L M : List (List Nat)} {fr : Bool} (H : Hp s q n [⟨1, 9, a, L.map .s, fr⟩] []) (hL : L.length < 2 ^ 37) {i : Nat} {x : List Nat} (hx : M[i]? = some x)
    {e : Tr} {Q : Ex → Tr → St → Prop} (h0 : e.get 0 = tx M) (h3 : e.get 3 = a) (h4 : e.get 4 = .i .i64 (i : Nat)) (h5 : e.get 5 = .i .i64 (L.length : Nat))
    (k : ∀ (e' : Tr) (b : Nat), e'.get 0 = tx M → e'.get 3 = a → e'.get 4 = .i .i64 (i : Nat) → e'.get 5 = .i .i64 (b : Nat) → b ≤ L.length → (∀ j y, b ≤ j → L[j]? = some y → ltN x y = true) → (b = 0 ∨ ∃ y, L[b - 1]? = some y ∧ ltN x y = false) → Q (.x 2) e' q) :
    W (lim prog) (subC AJ.body [1, 1, 0, 1, 0, 0, 1, 0, 0, 1, 0, 0]) e q Q := by
 have hx2 := Jt hx
 simp only [AJ, subC, go_sem, AE, AA, AC, AB, KB_n, KB_x, Nat.reduceBEq, Nat.reduceAdd, Nat.reduceLT, Nat.reduceLeDiff, Nat.reduceEqDiff, reduceIte, Int.reduceEq, reduceCtorEq]
 refine DN (fun y e q' => ∃ b : Nat, b = y ∧ b ≤ L.length ∧ q' = q ∧ (∀ j z, b ≤ j → L[j]? = some z → ltN x z = true) ∧ e.get 0 = tx M ∧ e.get 3 = a ∧ e.get 4 = .i .i64 (i : Nat) ∧ e.get 5 = .i .i64 (b : Nat)) ?_ L.length _ _ ?_
 · clear h0 h3 h4 h5
   rintro y e q' ⟨b, rfl, hbl, rfl, hgt, g0, g3, g4, g5⟩
   by_cases hb : b = 0
   · subst hb
     have e1 : ((0 : Int) < ((0 : Nat) : Int)) = False := by simp
     simp only [go_sem, AE, AA, AC, AB, KB_n, KB_x, Nat.reduceBEq, Nat.reduceAdd, Nat.reduceLT, Nat.reduceLeDiff, Nat.reduceEqDiff, reduceIte, Int.reduceEq, reduceCtorEq, g0, g3, g4, g5, e1]
     refine k _ 0 ?_ ?_ ?_ ?_ hbl hgt (.inl rfl) <;> simp only [go_sem, AE, AA, AC, AB, KB_n, KB_x, Nat.reduceBEq, Nat.reduceAdd, Nat.reduceLT, Nat.reduceLeDiff, Nat.reduceEqDiff, reduceIte, Int.reduceEq, reduceCtorEq, g0, g3, g4, g5]
   · have e1 : ((0 : Int) < (b : Int)) = True := eq_true (by omega)
     have hsb : IntKind.i64.wrap ((b : Int) - 1) = ((b - 1 : Nat) : Int) := by
      rw [show (b : Int) - 1 = ((b - 1 : Nat) : Int) by omega]; exact EV (by omega)
     obtain ⟨z, hz⟩ : ∃ z, L[b - 1]? = some z := ⟨_, List.getElem?_eq_getElem (by omega)⟩
     have hz2 := Jt hz
     have hgt' := UG z x
     rcases H.rows (i := 0) rfl with (⟨hh, h2⟩ | ⟨hh, h2⟩ | hh | hh) | ⟨kk, v, t, hh, k1, k2, k3, k4, k5, k6, k7⟩
     · simp at h2; subst h2; simp at hz
     · simp at h2; subst h2; simp at hz
     · simp only at hh
       have lr : ldA q' false 1 (.ep [AV.s z] 0 .full) = some (.s z) := rfl
       rw [hh] at g3
       cases hxz : ltN x z with
       | true =>
         rw [hxz] at hgt'
         simp only [go_sem, AE, AA, AC, AB, KB_n, KB_x, Nat.reduceBEq, Nat.reduceAdd, Nat.reduceLT, Nat.reduceLeDiff, Nat.reduceEqDiff, reduceIte, Int.reduceEq, reduceCtorEq, g0, g3, g4, g5, e1, hsb, AI, hz2, hx2, BQ, lr, Dn, hgt']
         refine ⟨b - 1, by omega, b - 1, rfl, by omega, fun j w hj hw => ?_, hh.symm, rfl⟩
         by_cases hjb : j = b - 1
         · subst hjb
           rw [hz] at hw; cases hw; exact hxz
         · exact hgt j w (by omega) hw
       | false =>
         rw [hxz] at hgt'
         simp only [go_sem, AE, AA, AC, AB, KB_n, KB_x, Nat.reduceBEq, Nat.reduceAdd, Nat.reduceLT, Nat.reduceLeDiff, Nat.reduceEqDiff, reduceIte, Int.reduceEq, reduceCtorEq, g0, g3, g4, g5, e1, hsb, AI, hz2, hx2, BQ, lr, Dn, hgt']
         refine k _ b ?_ ?_ ?_ ?_ hbl hgt (.inr ⟨z, hz, hxz⟩) <;> simp only [go_sem, AE, AA, AC, AB, KB_n, KB_x, Nat.reduceBEq, Nat.reduceAdd, Nat.reduceLT, Nat.reduceLeDiff, Nat.reduceEqDiff, reduceIte, Int.reduceEq, reduceCtorEq, g0, g3, g4, g5, hh]
     · simp only at hh
       have lr : ldA q' false 1 (.ep [AV.s z] 0 .shut) = some (.s z) := rfl
       rw [hh] at g3
       cases hxz : ltN x z with
       | true =>
         rw [hxz] at hgt'
         simp only [go_sem, AE, AA, AC, AB, KB_n, KB_x, Nat.reduceBEq, Nat.reduceAdd, Nat.reduceLT, Nat.reduceLeDiff, Nat.reduceEqDiff, reduceIte, Int.reduceEq, reduceCtorEq, g0, g3, g4, g5, e1, hsb, AI, hz2, hx2, BQ, lr, Dn, hgt']
         refine ⟨b - 1, by omega, b - 1, rfl, by omega, fun j w hj hw => ?_, hh.symm, rfl⟩
         by_cases hjb : j = b - 1
         · subst hjb
           rw [hz] at hw; cases hw; exact hxz
         · exact hgt j w (by omega) hw
       | false =>
         rw [hxz] at hgt'
         simp only [go_sem, AE, AA, AC, AB, KB_n, KB_x, Nat.reduceBEq, Nat.reduceAdd, Nat.reduceLT, Nat.reduceLeDiff, Nat.reduceEqDiff, reduceIte, Int.reduceEq, reduceCtorEq, g0, g3, g4, g5, e1, hsb, AI, hz2, hx2, BQ, lr, Dn, hgt']
         refine k _ b ?_ ?_ ?_ ?_ hbl hgt (.inr ⟨z, hz, hxz⟩) <;> simp only [go_sem, AE, AA, AC, AB, KB_n, KB_x, Nat.reduceBEq, Nat.reduceAdd, Nat.reduceLT, Nat.reduceLeDiff, Nat.reduceEqDiff, reduceIte, Int.reduceEq, reduceCtorEq, g0, g3, g4, g5, hh]
     · simp only at hh
       have lr : ldA q' false 1 (.ep [AV.s z] 0 (.tok kk v)) = some (.s z) := by simp [ldA, St.ok, k3, k4, cut, scal]
       rw [hh] at g3
       cases hxz : ltN x z with
       | true =>
         rw [hxz] at hgt'
         simp only [go_sem, AE, AA, AC, AB, KB_n, KB_x, Nat.reduceBEq, Nat.reduceAdd, Nat.reduceLT, Nat.reduceLeDiff, Nat.reduceEqDiff, reduceIte, Int.reduceEq, reduceCtorEq, g0, g3, g4, g5, e1, hsb, AI, hz2, hx2, BQ, lr, Dn, hgt']
         refine ⟨b - 1, by omega, b - 1, rfl, by omega, fun j w hj hw => ?_, hh.symm, rfl⟩
         by_cases hjb : j = b - 1
         · subst hjb
           rw [hz] at hw; cases hw; exact hxz
         · exact hgt j w (by omega) hw
       | false =>
         rw [hxz] at hgt'
         simp only [go_sem, AE, AA, AC, AB, KB_n, KB_x, Nat.reduceBEq, Nat.reduceAdd, Nat.reduceLT, Nat.reduceLeDiff, Nat.reduceEqDiff, reduceIte, Int.reduceEq, reduceCtorEq, g0, g3, g4, g5, e1, hsb, AI, hz2, hx2, BQ, lr, Dn, hgt']
         refine k _ b ?_ ?_ ?_ ?_ hbl hgt (.inr ⟨z, hz, hxz⟩) <;> simp only [go_sem, AE, AA, AC, AB, KB_n, KB_x, Nat.reduceBEq, Nat.reduceAdd, Nat.reduceLT, Nat.reduceLeDiff, Nat.reduceEqDiff, reduceIte, Int.reduceEq, reduceCtorEq, g0, g3, g4, g5, hh]
 · simp only [go_sem, AE, AA, AC, AB, KB_n, KB_x, Nat.reduceBEq, Nat.reduceAdd, Nat.reduceLT, Nat.reduceLeDiff, Nat.reduceEqDiff, reduceIte, Int.reduceEq, reduceCtorEq]
   refine ⟨L.length, rfl, Nat.le_refl _, fun j z hj hz => ?_, h0, h3, h4, h5⟩
   rw [List.getElem?_eq_none hj] at hz
   cases hz
theorem Ve {s q : St} {n : En} {a : AV} {L M : List (List Nat)} {fr : Bool} (H : Hp s q n [⟨1, 9, a, L.map .s, fr⟩] []) (hL : L.length < 2 ^ 37) {i b : Nat} {x : List Nat} (hx : M[i]? = some x) (hbl : b ≤ L.length)
    {e : Tr} {Q : Ex → Tr → St → Prop} (h0 : e.get 0 = tx M) (h3 : e.get 3 = a) (h4 : e.get 4 = .i .i64 (i : Nat)) (h5 : e.get 5 = .i .i64 (b : Nat)) (hle : b = 0 ∨ ∃ y, L[b - 1]? = some y ∧ ltN x y = false)
    (k1 : ∀ (e' : Tr) {z : List Nat}, L[b - 1]? = some z → z = x → e'.get 0 = tx M → e'.get 3 = a → e'.get 4 = .i .i64 (i : Nat) → Q (.x 1) e' q)
    (k2 : ∀ (e' : Tr), (b = 0 ∨ ∃ y, L[b - 1]? = some y ∧ ltN y x = true) → e'.get 0 = tx M → e'.get 3 = a → e'.get 4 = .i .i64 (i : Nat) → e'.get 5 = .i .i64 (b : Nat) → Q .n e' q) :
    W (lim prog) (subC AJ.body [1, 1, 0, 1, 0, 0, 1, 0, 0, 1, 1, 0]) e q Q := by
 have hx2 := Jt hx
 simp only [AJ, subC]
 by_cases hb : b = 0
 · subst hb
   have e1 : ((0 : Int) < ((0 : Nat) : Int)) = False := by simp
   simp only [go_sem, AE, AA, AC, AB, KB_n, KB_x, Nat.reduceBEq, Nat.reduceAdd, Nat.reduceLT, Nat.reduceLeDiff, Nat.reduceEqDiff, reduceIte, Int.reduceEq, reduceCtorEq, h0, h3, h4, h5, e1]
   refine k2 _ (.inl rfl) ?_ ?_ ?_ ?_ <;> simp only [go_sem, AE, AA, AC, AB, KB_n, KB_x, Nat.reduceBEq, Nat.reduceAdd, Nat.reduceLT, Nat.reduceLeDiff, Nat.reduceEqDiff, reduceIte, Int.reduceEq, reduceCtorEq, h0, h3, h4, h5]
 · have e1 : ((0 : Int) < (b : Int)) = True := eq_true (by omega)
   have hsb : IntKind.i64.wrap ((b : Int) - 1) = ((b - 1 : Nat) : Int) := by
    rw [show (b : Int) - 1 = ((b - 1 : Nat) : Int) by omega]; exact EV (by omega)
   obtain ⟨z, hz, hzz⟩ : ∃ z, L[b - 1]? = some z ∧ ltN x z = false := by
    rcases hle with h | h
    · exact absurd h hb
    · exact h
   have hz2 := Jt hz
   rcases H.rows (i := 0) rfl with (⟨hh, h2⟩ | ⟨hh, h2⟩ | hh | hh) | ⟨kk, v, t, hh, j1, j2, j3, j4, j5, j6, j7⟩
   · simp at h2; subst h2; simp at hz
   · simp at h2; subst h2; simp at hz
   · simp only at hh
     have lr : ldA q false 1 (.ep [AV.s z] 0 .full) = some (.s z) := rfl
     rw [hh] at h3
     by_cases hzx : z = x
     · have e2 : (z = x) = True := eq_true hzx
       simp only [go_sem, AE, AA, AC, AB, KB_n, KB_x, Nat.reduceBEq, Nat.reduceAdd, Nat.reduceLT, Nat.reduceLeDiff, Nat.reduceEqDiff, reduceIte, Int.reduceEq, reduceCtorEq, h0, h3, h4, h5, e1, hsb, AI, hz2, hx2, BQ, lr, Dn, e2]
       exact k1 _ hz hzx (by simp only [go_sem, AE, AA, AC, AB, KB_n, KB_x, Nat.reduceBEq, Nat.reduceAdd, Nat.reduceLT, Nat.reduceLeDiff, Nat.reduceEqDiff, reduceIte, Int.reduceEq, reduceCtorEq, h0]) (by simp only [go_sem, AE, AA, AC, AB, KB_n, KB_x, Nat.reduceBEq, Nat.reduceAdd, Nat.reduceLT, Nat.reduceLeDiff, Nat.reduceEqDiff, reduceIte, Int.reduceEq, reduceCtorEq, h3, hh]) (by simp only [go_sem, AE, AA, AC, AB, KB_n, KB_x, Nat.reduceBEq, Nat.reduceAdd, Nat.reduceLT, Nat.reduceLeDiff, Nat.reduceEqDiff, reduceIte, Int.reduceEq, reduceCtorEq, h4])
     · have e2 : (z = x) = False := eq_false hzx
       simp only [go_sem, AE, AA, AC, AB, KB_n, KB_x, Nat.reduceBEq, Nat.reduceAdd, Nat.reduceLT, Nat.reduceLeDiff, Nat.reduceEqDiff, reduceIte, Int.reduceEq, reduceCtorEq, h0, h3, h4, h5, e1, hsb, AI, hz2, hx2, BQ, lr, Dn, e2]
       exact k2 _ (.inr ⟨z, hz, HT hzz hzx⟩) (by simp only [go_sem, AE, AA, AC, AB, KB_n, KB_x, Nat.reduceBEq, Nat.reduceAdd, Nat.reduceLT, Nat.reduceLeDiff, Nat.reduceEqDiff, reduceIte, Int.reduceEq, reduceCtorEq, h0]) (by simp only [go_sem, AE, AA, AC, AB, KB_n, KB_x, Nat.reduceBEq, Nat.reduceAdd, Nat.reduceLT, Nat.reduceLeDiff, Nat.reduceEqDiff, reduceIte, Int.reduceEq, reduceCtorEq, h3, hh]) (by simp only [go_sem, AE, AA, AC, AB, KB_n, KB_x, Nat.reduceBEq, Nat.reduceAdd, Nat.reduceLT, Nat.reduceLeDiff, Nat.reduceEqDiff, reduceIte, Int.reduceEq, reduceCtorEq, h4]) (by simp only [go_sem, AE, AA, AC, AB, KB_n, KB_x, Nat.reduceBEq, Nat.reduceAdd, Nat.reduceLT, Nat.reduceLeDiff, Nat.reduceEqDiff, reduceIte, Int.reduceEq, reduceCtorEq, h5])
   · simp only at hh
     have lr : ldA q false 1 (.ep [AV.s z] 0 .shut) = some (.s z) := rfl
     rw [hh] at h3
     by_cases hzx : z = x
     · have e2 : (z = x) = True := eq_true hzx
       simp only [go_sem, AE, AA, AC, AB, KB_n, KB_x, Nat.reduceBEq, Nat.reduceAdd, Nat.reduceLT, Nat.reduceLeDiff, Nat.reduceEqDiff, reduceIte, Int.reduceEq, reduceCtorEq, h0, h3, h4, h5, e1, hsb, AI, hz2, hx2, BQ, lr, Dn, e2]
       exact k1 _ hz hzx (by simp only [go_sem, AE, AA, AC, AB, KB_n, KB_x, Nat.reduceBEq, Nat.reduceAdd, Nat.reduceLT, Nat.reduceLeDiff, Nat.reduceEqDiff, reduceIte, Int.reduceEq, reduceCtorEq, h0]) (by simp only [go_sem, AE, AA, AC, AB, KB_n, KB_x, Nat.reduceBEq, Nat.reduceAdd, Nat.reduceLT, Nat.reduceLeDiff, Nat.reduceEqDiff, reduceIte, Int.reduceEq, reduceCtorEq, h3, hh]) (by simp only [go_sem, AE, AA, AC, AB, KB_n, KB_x, Nat.reduceBEq, Nat.reduceAdd, Nat.reduceLT, Nat.reduceLeDiff, Nat.reduceEqDiff, reduceIte, Int.reduceEq, reduceCtorEq, h4])
     · have e2 : (z = x) = False := eq_false hzx
       simp only [go_sem, AE, AA, AC, AB, KB_n, KB_x, Nat.reduceBEq, Nat.reduceAdd, Nat.reduceLT, Nat.reduceLeDiff, Nat.reduceEqDiff, reduceIte, Int.reduceEq, reduceCtorEq, h0, h3, h4, h5, e1, hsb, AI, hz2, hx2, BQ, lr, Dn, e2]
       exact k2 _ (.inr ⟨z, hz, HT hzz hzx⟩) (by simp only [go_sem, AE, AA, AC, AB, KB_n, KB_x, Nat.reduceBEq, Nat.reduceAdd, Nat.reduceLT, Nat.reduceLeDiff, Nat.reduceEqDiff, reduceIte, Int.reduceEq, reduceCtorEq, h0]) (by simp only [go_sem, AE, AA, AC, AB, KB_n, KB_x, Nat.reduceBEq, Nat.reduceAdd, Nat.reduceLT, Nat.reduceLeDiff, Nat.reduceEqDiff, reduceIte, Int.reduceEq, reduceCtorEq, h3, hh]) (by simp only [go_sem, AE, AA, AC, AB, KB_n, KB_x, Nat.reduceBEq, Nat.reduceAdd, Nat.reduceLT, Nat.reduceLeDiff, Nat.reduceEqDiff, reduceIte, Int.reduceEq, reduceCtorEq, h4]) (by simp only [go_sem, AE, AA, AC, AB, KB_n, KB_x, Nat.reduceBEq, Nat.reduceAdd, Nat.reduceLT, Nat.reduceLeDiff, Nat.reduceEqDiff, reduceIte, Int.reduceEq, reduceCtorEq, h5])
   · simp only at hh
     have lr : ldA q false 1 (.ep [AV.s z] 0 (.tok kk v)) = some (.s z) := by simp [ldA, St.ok, j3, j4, cut, scal]
     rw [hh] at h3
     by_cases hzx : z = x
     · have e2 : (z = x) = True := eq_true hzx
       simp only [go_sem, AE, AA, AC, AB, KB_n, KB_x, Nat.reduceBEq, Nat.reduceAdd, Nat.reduceLT, Nat.reduceLeDiff, Nat.reduceEqDiff, reduceIte, Int.reduceEq, reduceCtorEq, h0, h3, h4, h5, e1, hsb, AI, hz2, hx2, BQ, lr, Dn, e2]
       exact k1 _ hz hzx (by simp only [go_sem, AE, AA, AC, AB, KB_n, KB_x, Nat.reduceBEq, Nat.reduceAdd, Nat.reduceLT, Nat.reduceLeDiff, Nat.reduceEqDiff, reduceIte, Int.reduceEq, reduceCtorEq, h0]) (by simp only [go_sem, AE, AA, AC, AB, KB_n, KB_x, Nat.reduceBEq, Nat.reduceAdd, Nat.reduceLT, Nat.reduceLeDiff, Nat.reduceEqDiff, reduceIte, Int.reduceEq, reduceCtorEq, h3, hh]) (by simp only [go_sem, AE, AA, AC, AB, KB_n, KB_x, Nat.reduceBEq, Nat.reduceAdd, Nat.reduceLT, Nat.reduceLeDiff, Nat.reduceEqDiff, reduceIte, Int.reduceEq, reduceCtorEq, h4])
     · have e2 : (z = x) = False := eq_false hzx
       simp only [go_sem, AE, AA, AC, AB, KB_n, KB_x, Nat.reduceBEq, Nat.reduceAdd, Nat.reduceLT, Nat.reduceLeDiff, Nat.reduceEqDiff, reduceIte, Int.reduceEq, reduceCtorEq, h0, h3, h4, h5, e1, hsb, AI, hz2, hx2, BQ, lr, Dn, e2]
       exact k2 _ (.inr ⟨z, hz, HT hzz hzx⟩) (by simp only [go_sem, AE, AA, AC, AB, KB_n, KB_x, Nat.reduceBEq, Nat.reduceAdd, Nat.reduceLT, Nat.reduceLeDiff, Nat.reduceEqDiff, reduceIte, Int.reduceEq, reduceCtorEq, h0]) (by simp only [go_sem, AE, AA, AC, AB, KB_n, KB_x, Nat.reduceBEq, Nat.reduceAdd, Nat.reduceLT, Nat.reduceLeDiff, Nat.reduceEqDiff, reduceIte, Int.reduceEq, reduceCtorEq, h3, hh]) (by simp only [go_sem, AE, AA, AC, AB, KB_n, KB_x, Nat.reduceBEq, Nat.reduceAdd, Nat.reduceLT, Nat.reduceLeDiff, Nat.reduceEqDiff, reduceIte, Int.reduceEq, reduceCtorEq, h4]) (by simp only [go_sem, AE, AA, AC, AB, KB_n, KB_x, Nat.reduceBEq, Nat.reduceAdd, Nat.reduceLT, Nat.reduceLeDiff, Nat.reduceEqDiff, reduceIte, Int.reduceEq, reduceCtorEq, h5])
end Go.Proofs.YtmnbfgfgjmmhfaaGreatDoor

namespace Go.Proofs.YtmnbfgfgjmmhfaaGreatDoor
open Go.Proofs.YtmnbfgfgjmmhfaaGreatDoor.Am
attribute [local irreducible] W WO WE WQ WD Tr.get Tr.set
theorem ovB {s q : St} (h : Over s q) (hw : Wf q) (hws : Wf s) {i : Nat} (hi : i < s.nb) : q.box? i = s.box? i := by
 have h1 := h.boxes
 have h2 := h.nb
 rw [box?_eq (by omega), box?_eq hi]
 conv => rhs; rw [← h1, List.getElem?_drop]
 congr 1; omega
theorem Td {s q : St} (h : Over s q) (hw : Wf q) (hws : Wf s) {k : Nat} (hk : k < s.nt) : q.tok? k = s.tok? k := by
 have h1 := h.toks
 have h2 := h.nt
 rw [tok?_eq (by omega), tok?_eq hk]
 conv => rhs; rw [← h1, List.getElem?_drop]
 congr 2; omega
section
variable {s0 s q : St} {n : En} {R : List RA} {B : List (Nat × Box)}
theorem _root_.Go.Proofs.YtmnbfgfgjmmhfaaGreatDoor.Am.Hp.kept (H : Hp s0 s n R B) (ov : Over s q) (hw : Wf q) : Hp s0 { q with lo := min s.lo q.lo } n R B where
 wf := hw.lo _
 over := (Up.of ov hw).over s0 H.over
 lo := by have := H.lo; simp only; omega
 nb := by have := H.nb; have := ov.nb; simp only; omega
 nt := by have := H.nt; have := ov.nt; simp only; omega
 rows := fun hr => (H.rows hr).mono ov.nt fun k hk => Td ov hw H.wf ((H.rows hr).tok_lt hk)
 apart := H.apart
 box := fun {i p} hp => by
  obtain ⟨h1, h2, h3⟩ := H.box hp
  refine ⟨?_, h2, by have := ov.nb; simp only; omega⟩
  show q.box? p.1 = _
  rw [ovB ov hw H.wf h3]; exact h1
 bapart := H.bapart
theorem _root_.Go.Proofs.YtmnbfgfgjmmhfaaGreatDoor.Am.Hp.addB (H : Hp s0 s n R B) {id : Nat} {X : Box} (hb : s.box? id = some X) (h0 : s0.nb ≤ id) (h1 : id < s.nb) (hn : ∀ p ∈ B, p.1 ≠ id) : Hp s0 s n R ((id, X) :: B) where
 wf := H.wf
 over := H.over
 lo := H.lo
 nb := H.nb
 nt := H.nt
 rows := H.rows
 apart := H.apart
 box := fun {i p} hp => by
  cases i with
  | zero => simp only [List.getElem?_cons_zero, Option.some.injEq] at hp; subst hp; exact ⟨hb, h0, h1⟩
  | succ i => exact H.box (i := i) (by simpa using hp)
 bapart := fun {i j p r} hne h1 h2 => by
  cases i with
  | zero => cases j with
    | zero => exact absurd rfl hne
    | succ j =>
      simp only [List.getElem?_cons_zero, Option.some.injEq] at h1; subst h1
      exact (hn r (List.mem_of_getElem? (by simpa using h2))).symm
  | succ i => cases j with
    | zero =>
      simp only [List.getElem?_cons_zero, Option.some.injEq] at h2; subst h2
      exact hn p (List.mem_of_getElem? (by simpa using h1))
    | succ j => exact H.bapart (i := i) (j := j) (by omega) (by simpa using h1) (by simpa using h2)
def RowK (v : AV) (L : List (List Nat)) (p : List (Nat × Box)) : Prop := (v = .nsl ∧ L = [] ∧ p = []) ∨ ∃ id Z, v = .bl id 1 0 L.length (L.length + Z.length, false) ∧ p = [(id, .row 9 ((L ++ Z).map .s) false 0)]
theorem _root_.Go.Proofs.YtmnbfgfgjmmhfaaGreatDoor.Am.Hp.keptT (H : Hp s0 s n R B) {s' : St} {v : AV} {L : List (List Nat)} (h : Ht s s' v L) : ∃ p, RowK v L p ∧ Hp s0 s' n R (p ++ B) ∧ s.nb ≤ s'.nb := by
 obtain ⟨q, ov, hw, rfl, h⟩ := h
 have K := H.kept ov hw
 rcases h with ⟨rfl, rfl⟩ | ⟨id, Z, rfl, hb, h1, h2⟩
 · exact ⟨[], .inl ⟨rfl, rfl, rfl⟩, K, ov.nb⟩
 · refine ⟨[(id, _)], .inr ⟨id, Z, rfl, rfl⟩, K.addB hb (by have := H.over.nb; omega) h2 (fun p hp => ?_), ov.nb⟩
   obtain ⟨i, hi, rfl⟩ := List.mem_iff_getElem.1 hp
   have := (H.box (List.getElem?_eq_getElem hi)).2.2
   omega
end
theorem Ht.up {s0 s s' : St} {v : AV} {L : List (List Nat)} (h : Over s0 s) (hk : Ht s s' v L) : Ht s0 { s' with lo := min s0.lo s'.lo } v L := by
 obtain ⟨q, ov, hw, rfl, hr⟩ := hk
 have hlo : s0.nb ≤ min s.lo q.lo := by have := h.lo; have := ov.lo; have := h.nb; omega
 refine ⟨{ q with lo := min s.lo q.lo }, ?_, hw.lo _, rfl, ?_⟩
 · have := Lc h ov (by omega)
   exact ⟨this.nb, this.boxes, this.nt, this.toks, hlo⟩
 · rcases hr with hr | ⟨id, Z, h1, h2, h3, h4⟩
   · exact .inl hr
   · exact .inr ⟨id, Z, h1, h2, by have := h.nb; omega, h4⟩
def PY (n : IN) : List (List Nat) := Hu ((allL n 0).flatMap fun x => Bn x.2.items)
def Te (n : IN) : List (List Nat) := Hu ((allL n 0).flatMap fun x => Js x.2)
theorem Vf (n : IN) (ho : n.Ok) (hb : nodesI n < 2 ^ 61) (hF : ∀ x ∈ allL n 0, ∀ q, Wf q → (lim prog).call Ed [.agg x.2.cells] q = some (tx (Bn x.2.items), q)) (hsz : ((allL n 0).flatMap fun x => Bn x.2.items).length < 2 ^ 36) (s : St) (hw : Wf s) :
    ∃ v s', (lim prog).call De [.agg n.cells] s = some (v, s') ∧ Ht s s' v (PY n) := by
 refine fn_K Lr rfl rfl rfl (by rfl) ?_
 have hz0 : wkZ Df.cin [.agg n.cells] = [.agg n.cells] := by simp [Df, wkZ, wk, IN.cells, itx]
 rw [hz0]
 have e0 : s.enter.nb = s.nb := rfl
 have H1 := (Hp.begin hw).new (.cells 25 n.cells)
 obtain ⟨q1, hq1⟩ : ∃ q1, s.enter.new (.cells 25 n.cells) = q1 := ⟨_, rfl⟩
 rw [hq1, e0] at H1
 have lw := H1.ldw (m := 4) 0 rfl rfl
 obtain ⟨v, q2, d2, k2⟩ := PW n ho hb (fun i => Bn i.items) Ed hF hsz q1 H1.wf
 simp only [Df, go_sem, AE, AA, AC, AB, KB_n, KB_x, Nat.reduceBEq, Nat.reduceAdd, Nat.reduceLT, Nat.reduceLeDiff, Nat.reduceEqDiff, reduceIte, Int.reduceEq, reduceCtorEq, nc4, List.length_cons, List.length_nil, hq1, e0, lw, E1, d2]
 exact k2.up H1.over
theorem sets_K (n : IN) (ho : n.Ok) (hb : nodesI n < 2 ^ 61) (hF : ∀ x ∈ allL n 0, ∀ q, Wf q → (lim prog).call FL [.agg x.2.cells] q = some (tx (Js x.2), q)) (hsz : ((allL n 0).flatMap fun x => Js x.2).length < 2 ^ 36) (s : St) (hw : Wf s) :
    ∃ v s', (lim prog).call Ec [.agg n.cells] s = some (v, s') ∧ Ht s s' v (Te n) := by
 refine fn_K Ng rfl rfl rfl (by rfl) ?_
 have hz0 : wkZ Ee.cin [.agg n.cells] = [.agg n.cells] := by simp [Ee, wkZ, wk, IN.cells, itx]
 rw [hz0]
 have e0 : s.enter.nb = s.nb := rfl
 have H1 := (Hp.begin hw).new (.cells 25 n.cells)
 obtain ⟨q1, hq1⟩ : ∃ q1, s.enter.new (.cells 25 n.cells) = q1 := ⟨_, rfl⟩
 rw [hq1, e0] at H1
 have lw := H1.ldw (m := 4) 0 rfl rfl
 obtain ⟨v, q2, d2, k2⟩ := PW n ho hb Js FL hF hsz q1 H1.wf
 simp only [Ee, go_sem, AE, AA, AC, AB, KB_n, KB_x, Nat.reduceBEq, Nat.reduceAdd, Nat.reduceLT, Nat.reduceLeDiff, Nat.reduceEqDiff, reduceIte, Int.reduceEq, reduceCtorEq, nc4, List.length_cons, List.length_nil, hq1, e0, lw, E1, d2]
 exact k2.up H1.over
end Go.Proofs.YtmnbfgfgjmmhfaaGreatDoor

namespace Go.Proofs.YtmnbfgfgjmmhfaaGreatDoor
open Go.Proofs.YtmnbfgfgjmmhfaaGreatDoor.Am
attribute [local irreducible] W WO WE WQ WD Tr.get Tr.set
theorem UI {n : Nat} {Q : Ex → Tr → St → Prop} {e : Tr} {s : St} (h : Q .n e s) : KB n Q (.x n) e s := by
 simp only [KB_x, go_sem, AE, AA, AC, AB, KB_n, KB_x, Nat.reduceBEq, Nat.reduceAdd, Nat.reduceLT, Nat.reduceLeDiff, Nat.reduceEqDiff, reduceIte, Int.reduceEq, reduceCtorEq]; exact h
theorem My {q : St} {id i : Nat} {M Z : List (List Nat)} {fz : Bool} {x : List Nat} (hx : M[i]? = some x) (hb : q.box? id = some (.row 9 ((M ++ Z).map .s) fz 0)) : ldA q false 1 (.p id (0 + i * 1)) = some (.s x) := by
 have hlt := (List.getElem?_eq_some_iff.1 hx).1
 have : cut ((M ++ Z).map AV.s) (0 + i * 1) 1 = some [.s x] := by
  unfold cut
  have e1 : (((M ++ Z).map AV.s).drop (0 + i * 1)).take 1 = [.s x] := by
   rw [Nat.zero_add, Nat.mul_one, List.take_one, List.head?_drop, List.getElem?_map, List.getElem?_append_left hlt, hx]
   rfl
  rw [e1]; rfl
 simp only [ldA, St.cells?, hb, this]
 rfl
theorem Tq {s q : St} {n : En} {a : AV} {L M Z : List (List Nat)} {id m0 : Nat} {fz : Bool} {fr : Bool} (H : Hp s q n [⟨1, 9, a, L.map .s, fr⟩] []) (hL : L.length < 2 ^ 37) {i : Nat} {x : List Nat} (hx : M[i]? = some x) (hbx : q.box? id = some (.row 9 ((M ++ Z).map .s) fz 0))
    {e : Tr} {Q : Ex → Tr → St → Prop} (h0 : e.get 0 = .bl id 1 0 M.length (m0, false)) (h3 : e.get 3 = a) (h4 : e.get 4 = .i .i64 (i : Nat)) (h5 : e.get 5 = .i .i64 (L.length : Nat))
    (k : ∀ (e' : Tr) (b : Nat), e'.get 0 = .bl id 1 0 M.length (m0, false) → e'.get 3 = a → e'.get 4 = .i .i64 (i : Nat) → e'.get 5 = .i .i64 (b : Nat) → b ≤ L.length → (∀ j y, b ≤ j → L[j]? = some y → ltN x y = true) → (b = 0 ∨ ∃ y, L[b - 1]? = some y ∧ ltN x y = false) → Q (.x 2) e' q) :
    W (lim prog) (subC AJ.body [1, 1, 0, 1, 0, 0, 1, 0, 0, 1, 0, 0]) e q Q := by
 have hil : (i < M.length) = True := eq_true (List.getElem?_eq_some_iff.1 hx).1
 have lr2 := My hx hbx
 simp only [AJ, subC, go_sem, AE, AA, AC, AB, KB_n, KB_x, Nat.reduceBEq, Nat.reduceAdd, Nat.reduceLT, Nat.reduceLeDiff, Nat.reduceEqDiff, reduceIte, Int.reduceEq, reduceCtorEq]
 refine DN (fun y e q' => ∃ b : Nat, b = y ∧ b ≤ L.length ∧ q' = q ∧ (∀ j z, b ≤ j → L[j]? = some z → ltN x z = true) ∧ e.get 0 = .bl id 1 0 M.length (m0, false) ∧ e.get 3 = a ∧ e.get 4 = .i .i64 (i : Nat) ∧ e.get 5 = .i .i64 (b : Nat)) ?_ L.length _ _ ?_
 · clear h0 h3 h4 h5
   rintro y e q' ⟨b, rfl, hbl, rfl, hgt, g0, g3, g4, g5⟩
   by_cases hb : b = 0
   · subst hb
     have e1 : ((0 : Int) < ((0 : Nat) : Int)) = False := by simp
     simp only [go_sem, AE, AA, AC, AB, KB_n, KB_x, Nat.reduceBEq, Nat.reduceAdd, Nat.reduceLT, Nat.reduceLeDiff, Nat.reduceEqDiff, reduceIte, Int.reduceEq, reduceCtorEq, g0, g3, g4, g5, e1]
     refine k _ 0 ?_ ?_ ?_ ?_ hbl hgt (.inl rfl) <;> simp only [go_sem, AE, AA, AC, AB, KB_n, KB_x, Nat.reduceBEq, Nat.reduceAdd, Nat.reduceLT, Nat.reduceLeDiff, Nat.reduceEqDiff, reduceIte, Int.reduceEq, reduceCtorEq, g0, g3, g4, g5]
   · have e1 : ((0 : Int) < (b : Int)) = True := eq_true (by omega)
     have hsb : IntKind.i64.wrap ((b : Int) - 1) = ((b - 1 : Nat) : Int) := by
      rw [show (b : Int) - 1 = ((b - 1 : Nat) : Int) by omega]; exact EV (by omega)
     obtain ⟨z, hz⟩ : ∃ z, L[b - 1]? = some z := ⟨_, List.getElem?_eq_getElem (by omega)⟩
     have hz2 := Jt hz
     have hgt' := UG z x
     rcases H.rows (i := 0) rfl with (⟨hh, h2⟩ | ⟨hh, h2⟩ | hh | hh) | ⟨kk, v, t, hh, k1, k2, k3, k4, k5, k6, k7⟩
     · simp at h2; subst h2; simp at hz
     · simp at h2; subst h2; simp at hz
     · simp only at hh
       have lr : ldA q' false 1 (.ep [AV.s z] 0 .full) = some (.s z) := rfl
       rw [hh] at g3
       cases hxz : ltN x z with
       | true =>
         rw [hxz] at hgt'
         simp only [go_sem, AE, AA, AC, AB, KB_n, KB_x, Nat.reduceBEq, Nat.reduceAdd, Nat.reduceLT, Nat.reduceLeDiff, Nat.reduceEqDiff, reduceIte, Int.reduceEq, reduceCtorEq, g0, g3, g4, g5, e1, hsb, AI, hz2, hil, lr2, BQ, lr, Dn, hgt']
         refine ⟨b - 1, by omega, b - 1, rfl, by omega, fun j w hj hw => ?_, hh.symm, rfl⟩
         by_cases hjb : j = b - 1
         · subst hjb
           rw [hz] at hw; cases hw; exact hxz
         · exact hgt j w (by omega) hw
       | false =>
         rw [hxz] at hgt'
         simp only [go_sem, AE, AA, AC, AB, KB_n, KB_x, Nat.reduceBEq, Nat.reduceAdd, Nat.reduceLT, Nat.reduceLeDiff, Nat.reduceEqDiff, reduceIte, Int.reduceEq, reduceCtorEq, g0, g3, g4, g5, e1, hsb, AI, hz2, hil, lr2, BQ, lr, Dn, hgt']
         refine k _ b ?_ ?_ ?_ ?_ hbl hgt (.inr ⟨z, hz, hxz⟩) <;> simp only [go_sem, AE, AA, AC, AB, KB_n, KB_x, Nat.reduceBEq, Nat.reduceAdd, Nat.reduceLT, Nat.reduceLeDiff, Nat.reduceEqDiff, reduceIte, Int.reduceEq, reduceCtorEq, g0, g3, g4, g5, hh]
     · simp only at hh
       have lr : ldA q' false 1 (.ep [AV.s z] 0 .shut) = some (.s z) := rfl
       rw [hh] at g3
       cases hxz : ltN x z with
       | true =>
         rw [hxz] at hgt'
         simp only [go_sem, AE, AA, AC, AB, KB_n, KB_x, Nat.reduceBEq, Nat.reduceAdd, Nat.reduceLT, Nat.reduceLeDiff, Nat.reduceEqDiff, reduceIte, Int.reduceEq, reduceCtorEq, g0, g3, g4, g5, e1, hsb, AI, hz2, hil, lr2, BQ, lr, Dn, hgt']
         refine ⟨b - 1, by omega, b - 1, rfl, by omega, fun j w hj hw => ?_, hh.symm, rfl⟩
         by_cases hjb : j = b - 1
         · subst hjb
           rw [hz] at hw; cases hw; exact hxz
         · exact hgt j w (by omega) hw
       | false =>
         rw [hxz] at hgt'
         simp only [go_sem, AE, AA, AC, AB, KB_n, KB_x, Nat.reduceBEq, Nat.reduceAdd, Nat.reduceLT, Nat.reduceLeDiff, Nat.reduceEqDiff, reduceIte, Int.reduceEq, reduceCtorEq, g0, g3, g4, g5, e1, hsb, AI, hz2, hil, lr2, BQ, lr, Dn, hgt']
         refine k _ b ?_ ?_ ?_ ?_ hbl hgt (.inr ⟨z, hz, hxz⟩) <;> simp only [go_sem, AE, AA, AC, AB, KB_n, KB_x, Nat.reduceBEq, Nat.reduceAdd, Nat.reduceLT, Nat.reduceLeDiff, Nat.reduceEqDiff, reduceIte, Int.reduceEq, reduceCtorEq, g0, g3, g4, g5, hh]
     · simp only at hh
       have lr : ldA q' false 1 (.ep [AV.s z] 0 (.tok kk v)) = some (.s z) := by simp [ldA, St.ok, k3, k4, cut, scal]
       rw [hh] at g3
       cases hxz : ltN x z with
       | true =>
         rw [hxz] at hgt'
         simp only [go_sem, AE, AA, AC, AB, KB_n, KB_x, Nat.reduceBEq, Nat.reduceAdd, Nat.reduceLT, Nat.reduceLeDiff, Nat.reduceEqDiff, reduceIte, Int.reduceEq, reduceCtorEq, g0, g3, g4, g5, e1, hsb, AI, hz2, hil, lr2, BQ, lr, Dn, hgt']
         refine ⟨b - 1, by omega, b - 1, rfl, by omega, fun j w hj hw => ?_, hh.symm, rfl⟩
         by_cases hjb : j = b - 1
         · subst hjb
           rw [hz] at hw; cases hw; exact hxz
         · exact hgt j w (by omega) hw
       | false =>
         rw [hxz] at hgt'
         simp only [go_sem, AE, AA, AC, AB, KB_n, KB_x, Nat.reduceBEq, Nat.reduceAdd, Nat.reduceLT, Nat.reduceLeDiff, Nat.reduceEqDiff, reduceIte, Int.reduceEq, reduceCtorEq, g0, g3, g4, g5, e1, hsb, AI, hz2, hil, lr2, BQ, lr, Dn, hgt']
         refine k _ b ?_ ?_ ?_ ?_ hbl hgt (.inr ⟨z, hz, hxz⟩) <;> simp only [go_sem, AE, AA, AC, AB, KB_n, KB_x, Nat.reduceBEq, Nat.reduceAdd, Nat.reduceLT, Nat.reduceLeDiff, Nat.reduceEqDiff, reduceIte, Int.reduceEq, reduceCtorEq, g0, g3, g4, g5, hh]
 · simp only [go_sem, AE, AA, AC, AB, KB_n, KB_x, Nat.reduceBEq, Nat.reduceAdd, Nat.reduceLT, Nat.reduceLeDiff, Nat.reduceEqDiff, reduceIte, Int.reduceEq, reduceCtorEq]
   refine ⟨L.length, rfl, Nat.le_refl _, fun j z hj hz => ?_, h0, h3, h4, h5⟩
   rw [List.getElem?_eq_none hj] at hz
   cases hz
theorem Ts {s q : St} {n : En} {a : AV} {L M Z : List (List Nat)} {id m0 : Nat} {fz : Bool} {fr : Bool} (H : Hp s q n [⟨1, 9, a, L.map .s, fr⟩] []) (hL : L.length < 2 ^ 37) {i b : Nat} {x : List Nat} (hx : M[i]? = some x) (hbx : q.box? id = some (.row 9 ((M ++ Z).map .s) fz 0)) (hbl : b ≤ L.length)
    {e : Tr} {Q : Ex → Tr → St → Prop} (h0 : e.get 0 = .bl id 1 0 M.length (m0, false)) (h3 : e.get 3 = a) (h4 : e.get 4 = .i .i64 (i : Nat)) (h5 : e.get 5 = .i .i64 (b : Nat)) (hle : b = 0 ∨ ∃ y, L[b - 1]? = some y ∧ ltN x y = false)
    (k1 : ∀ (e' : Tr) {z : List Nat}, L[b - 1]? = some z → z = x → e'.get 0 = .bl id 1 0 M.length (m0, false) → e'.get 3 = a → e'.get 4 = .i .i64 (i : Nat) → Q (.x 1) e' q)
    (k2 : ∀ (e' : Tr), (b = 0 ∨ ∃ y, L[b - 1]? = some y ∧ ltN y x = true) → e'.get 0 = .bl id 1 0 M.length (m0, false) → e'.get 3 = a → e'.get 4 = .i .i64 (i : Nat) → e'.get 5 = .i .i64 (b : Nat) → Q .n e' q) :
    W (lim prog) (subC AJ.body [1, 1, 0, 1, 0, 0, 1, 0, 0, 1, 1, 0]) e q Q := by
 have hil : (i < M.length) = True := eq_true (List.getElem?_eq_some_iff.1 hx).1
 have lr2 := My hx hbx
 simp only [AJ, subC]
 by_cases hb : b = 0
 · subst hb
   have e1 : ((0 : Int) < ((0 : Nat) : Int)) = False := by simp
   simp only [go_sem, AE, AA, AC, AB, KB_n, KB_x, Nat.reduceBEq, Nat.reduceAdd, Nat.reduceLT, Nat.reduceLeDiff, Nat.reduceEqDiff, reduceIte, Int.reduceEq, reduceCtorEq, h0, h3, h4, h5, e1]
   refine k2 _ (.inl rfl) ?_ ?_ ?_ ?_ <;> simp only [go_sem, AE, AA, AC, AB, KB_n, KB_x, Nat.reduceBEq, Nat.reduceAdd, Nat.reduceLT, Nat.reduceLeDiff, Nat.reduceEqDiff, reduceIte, Int.reduceEq, reduceCtorEq, h0, h3, h4, h5]
 · have e1 : ((0 : Int) < (b : Int)) = True := eq_true (by omega)
   have hsb : IntKind.i64.wrap ((b : Int) - 1) = ((b - 1 : Nat) : Int) := by
    rw [show (b : Int) - 1 = ((b - 1 : Nat) : Int) by omega]; exact EV (by omega)
   obtain ⟨z, hz, hzz⟩ : ∃ z, L[b - 1]? = some z ∧ ltN x z = false := by
    rcases hle with h | h
    · exact absurd h hb
    · exact h
   have hz2 := Jt hz
   rcases H.rows (i := 0) rfl with (⟨hh, h2⟩ | ⟨hh, h2⟩ | hh | hh) | ⟨kk, v, t, hh, j1, j2, j3, j4, j5, j6, j7⟩
   · simp at h2; subst h2; simp at hz
   · simp at h2; subst h2; simp at hz
   · simp only at hh
     have lr : ldA q false 1 (.ep [AV.s z] 0 .full) = some (.s z) := rfl
     rw [hh] at h3
     by_cases hzx : z = x
     · have e2 : (z = x) = True := eq_true hzx
       simp only [go_sem, AE, AA, AC, AB, KB_n, KB_x, Nat.reduceBEq, Nat.reduceAdd, Nat.reduceLT, Nat.reduceLeDiff, Nat.reduceEqDiff, reduceIte, Int.reduceEq, reduceCtorEq, h0, h3, h4, h5, e1, hsb, AI, hz2, hil, lr2, BQ, lr, Dn, e2]
       exact k1 _ hz hzx (by simp only [go_sem, AE, AA, AC, AB, KB_n, KB_x, Nat.reduceBEq, Nat.reduceAdd, Nat.reduceLT, Nat.reduceLeDiff, Nat.reduceEqDiff, reduceIte, Int.reduceEq, reduceCtorEq, h0]) (by simp only [go_sem, AE, AA, AC, AB, KB_n, KB_x, Nat.reduceBEq, Nat.reduceAdd, Nat.reduceLT, Nat.reduceLeDiff, Nat.reduceEqDiff, reduceIte, Int.reduceEq, reduceCtorEq, h3, hh]) (by simp only [go_sem, AE, AA, AC, AB, KB_n, KB_x, Nat.reduceBEq, Nat.reduceAdd, Nat.reduceLT, Nat.reduceLeDiff, Nat.reduceEqDiff, reduceIte, Int.reduceEq, reduceCtorEq, h4])
     · have e2 : (z = x) = False := eq_false hzx
       simp only [go_sem, AE, AA, AC, AB, KB_n, KB_x, Nat.reduceBEq, Nat.reduceAdd, Nat.reduceLT, Nat.reduceLeDiff, Nat.reduceEqDiff, reduceIte, Int.reduceEq, reduceCtorEq, h0, h3, h4, h5, e1, hsb, AI, hz2, hil, lr2, BQ, lr, Dn, e2]
       exact k2 _ (.inr ⟨z, hz, HT hzz hzx⟩) (by simp only [go_sem, AE, AA, AC, AB, KB_n, KB_x, Nat.reduceBEq, Nat.reduceAdd, Nat.reduceLT, Nat.reduceLeDiff, Nat.reduceEqDiff, reduceIte, Int.reduceEq, reduceCtorEq, h0]) (by simp only [go_sem, AE, AA, AC, AB, KB_n, KB_x, Nat.reduceBEq, Nat.reduceAdd, Nat.reduceLT, Nat.reduceLeDiff, Nat.reduceEqDiff, reduceIte, Int.reduceEq, reduceCtorEq, h3, hh]) (by simp only [go_sem, AE, AA, AC, AB, KB_n, KB_x, Nat.reduceBEq, Nat.reduceAdd, Nat.reduceLT, Nat.reduceLeDiff, Nat.reduceEqDiff, reduceIte, Int.reduceEq, reduceCtorEq, h4]) (by simp only [go_sem, AE, AA, AC, AB, KB_n, KB_x, Nat.reduceBEq, Nat.reduceAdd, Nat.reduceLT, Nat.reduceLeDiff, Nat.reduceEqDiff, reduceIte, Int.reduceEq, reduceCtorEq, h5])
   · simp only at hh
     have lr : ldA q false 1 (.ep [AV.s z] 0 .shut) = some (.s z) := rfl
     rw [hh] at h3
     by_cases hzx : z = x
     · have e2 : (z = x) = True := eq_true hzx
       simp only [go_sem, AE, AA, AC, AB, KB_n, KB_x, Nat.reduceBEq, Nat.reduceAdd, Nat.reduceLT, Nat.reduceLeDiff, Nat.reduceEqDiff, reduceIte, Int.reduceEq, reduceCtorEq, h0, h3, h4, h5, e1, hsb, AI, hz2, hil, lr2, BQ, lr, Dn, e2]
       exact k1 _ hz hzx (by simp only [go_sem, AE, AA, AC, AB, KB_n, KB_x, Nat.reduceBEq, Nat.reduceAdd, Nat.reduceLT, Nat.reduceLeDiff, Nat.reduceEqDiff, reduceIte, Int.reduceEq, reduceCtorEq, h0]) (by simp only [go_sem, AE, AA, AC, AB, KB_n, KB_x, Nat.reduceBEq, Nat.reduceAdd, Nat.reduceLT, Nat.reduceLeDiff, Nat.reduceEqDiff, reduceIte, Int.reduceEq, reduceCtorEq, h3, hh]) (by simp only [go_sem, AE, AA, AC, AB, KB_n, KB_x, Nat.reduceBEq, Nat.reduceAdd, Nat.reduceLT, Nat.reduceLeDiff, Nat.reduceEqDiff, reduceIte, Int.reduceEq, reduceCtorEq, h4])
     · have e2 : (z = x) = False := eq_false hzx
       simp only [go_sem, AE, AA, AC, AB, KB_n, KB_x, Nat.reduceBEq, Nat.reduceAdd, Nat.reduceLT, Nat.reduceLeDiff, Nat.reduceEqDiff, reduceIte, Int.reduceEq, reduceCtorEq, h0, h3, h4, h5, e1, hsb, AI, hz2, hil, lr2, BQ, lr, Dn, e2]
       exact k2 _ (.inr ⟨z, hz, HT hzz hzx⟩) (by simp only [go_sem, AE, AA, AC, AB, KB_n, KB_x, Nat.reduceBEq, Nat.reduceAdd, Nat.reduceLT, Nat.reduceLeDiff, Nat.reduceEqDiff, reduceIte, Int.reduceEq, reduceCtorEq, h0]) (by simp only [go_sem, AE, AA, AC, AB, KB_n, KB_x, Nat.reduceBEq, Nat.reduceAdd, Nat.reduceLT, Nat.reduceLeDiff, Nat.reduceEqDiff, reduceIte, Int.reduceEq, reduceCtorEq, h3, hh]) (by simp only [go_sem, AE, AA, AC, AB, KB_n, KB_x, Nat.reduceBEq, Nat.reduceAdd, Nat.reduceLT, Nat.reduceLeDiff, Nat.reduceEqDiff, reduceIte, Int.reduceEq, reduceCtorEq, h4]) (by simp only [go_sem, AE, AA, AC, AB, KB_n, KB_x, Nat.reduceBEq, Nat.reduceAdd, Nat.reduceLT, Nat.reduceLeDiff, Nat.reduceEqDiff, reduceIte, Int.reduceEq, reduceCtorEq, h5])
   · simp only at hh
     have lr : ldA q false 1 (.ep [AV.s z] 0 (.tok kk v)) = some (.s z) := by simp [ldA, St.ok, j3, j4, cut, scal]
     rw [hh] at h3
     by_cases hzx : z = x
     · have e2 : (z = x) = True := eq_true hzx
       simp only [go_sem, AE, AA, AC, AB, KB_n, KB_x, Nat.reduceBEq, Nat.reduceAdd, Nat.reduceLT, Nat.reduceLeDiff, Nat.reduceEqDiff, reduceIte, Int.reduceEq, reduceCtorEq, h0, h3, h4, h5, e1, hsb, AI, hz2, hil, lr2, BQ, lr, Dn, e2]
       exact k1 _ hz hzx (by simp only [go_sem, AE, AA, AC, AB, KB_n, KB_x, Nat.reduceBEq, Nat.reduceAdd, Nat.reduceLT, Nat.reduceLeDiff, Nat.reduceEqDiff, reduceIte, Int.reduceEq, reduceCtorEq, h0]) (by simp only [go_sem, AE, AA, AC, AB, KB_n, KB_x, Nat.reduceBEq, Nat.reduceAdd, Nat.reduceLT, Nat.reduceLeDiff, Nat.reduceEqDiff, reduceIte, Int.reduceEq, reduceCtorEq, h3, hh]) (by simp only [go_sem, AE, AA, AC, AB, KB_n, KB_x, Nat.reduceBEq, Nat.reduceAdd, Nat.reduceLT, Nat.reduceLeDiff, Nat.reduceEqDiff, reduceIte, Int.reduceEq, reduceCtorEq, h4])
     · have e2 : (z = x) = False := eq_false hzx
       simp only [go_sem, AE, AA, AC, AB, KB_n, KB_x, Nat.reduceBEq, Nat.reduceAdd, Nat.reduceLT, Nat.reduceLeDiff, Nat.reduceEqDiff, reduceIte, Int.reduceEq, reduceCtorEq, h0, h3, h4, h5, e1, hsb, AI, hz2, hil, lr2, BQ, lr, Dn, e2]
       exact k2 _ (.inr ⟨z, hz, HT hzz hzx⟩) (by simp only [go_sem, AE, AA, AC, AB, KB_n, KB_x, Nat.reduceBEq, Nat.reduceAdd, Nat.reduceLT, Nat.reduceLeDiff, Nat.reduceEqDiff, reduceIte, Int.reduceEq, reduceCtorEq, h0]) (by simp only [go_sem, AE, AA, AC, AB, KB_n, KB_x, Nat.reduceBEq, Nat.reduceAdd, Nat.reduceLT, Nat.reduceLeDiff, Nat.reduceEqDiff, reduceIte, Int.reduceEq, reduceCtorEq, h3, hh]) (by simp only [go_sem, AE, AA, AC, AB, KB_n, KB_x, Nat.reduceBEq, Nat.reduceAdd, Nat.reduceLT, Nat.reduceLeDiff, Nat.reduceEqDiff, reduceIte, Int.reduceEq, reduceCtorEq, h4]) (by simp only [go_sem, AE, AA, AC, AB, KB_n, KB_x, Nat.reduceBEq, Nat.reduceAdd, Nat.reduceLT, Nat.reduceLeDiff, Nat.reduceEqDiff, reduceIte, Int.reduceEq, reduceCtorEq, h5])
theorem QN (M : List (List Nat)) (hM : M.length < 2 ^ 36) (s : St) (hw : Wf s) : ∃ r s', (lim prog).call AZ [tx M] s = some (r, s') ∧ ∃ L, r = tx L ∧ s' = s ∧ L.Pairwise (fun x y => ltN x y = true) ∧ ∀ x, x ∈ L ↔ x ∈ M := by
 refine fn_G Ch rfl rfl ?_
 have hz0 : wkZ AJ.cin [tx M] = [tx M] := by simp [AJ, wkZ, wk, Jn]
 rw [hz0]
 have H1 := Hp.begin hw
 generalize hq : s.enter = q at H1
 simp only [AJ, go_sem, AE, AA, AC, AB, KB_n, KB_x, Nat.reduceBEq, Nat.reduceAdd, Nat.reduceLT, Nat.reduceLeDiff, Nat.reduceEqDiff, reduceIte, Int.reduceEq, reduceCtorEq]
 refine DN (fun x e q => ∃ (i : Nat) (L : List (List Nat)) (a : AV) (fr : Bool), i + x = M.length ∧ L.length ≤ i ∧ L.Pairwise (fun x y => ltN x y = true) ∧ (∀ x, x ∈ L ↔ x ∈ M.take i) ∧ Hp s q s.en [⟨1, 9, a, L.map .s, fr⟩] [] ∧ e.get 0 = tx M ∧ e.get 3 = a ∧ e.get 4 = .i .i64 (i : Nat)) ?_ M.length _ _ ?_
 · rintro x e q' ⟨i, L, a, fr, hix, hll, hasc, hmem, H, g0, g3, g4⟩
   have hla := PX (H.rows (i := 0) rfl) q'
   simp only [List.length_map] at hla
   by_cases h : i < M.length
   · have h1 : ((i : Int) < (M.length : Int)) = True := eq_true (by omega)
     obtain ⟨z, hz⟩ : ∃ z, M[i]? = some z := ⟨_, List.getElem?_eq_getElem h⟩
     have hz2 := Jt hz
     have hw1 := BO (show i + 1 < 2 ^ 63 by omega)
     have htk : M.take (i + 1) = M.take i ++ [z] := by rw [List.take_add_one, hz]; rfl
     simp only [go_sem, AE, AA, AC, AB, KB_n, KB_x, Nat.reduceBEq, Nat.reduceAdd, Nat.reduceLT, Nat.reduceLeDiff, Nat.reduceEqDiff, reduceIte, Int.reduceEq, reduceCtorEq, g0, g3, g4, List.length_map, h1, hla]
     refine Vd (M := M) (i := i) (x := z) H (by omega) hz ?_ ?_ ?_ ?_ ?_
     · simp only [go_sem, AE, AA, AC, AB, KB_n, KB_x, Nat.reduceBEq, Nat.reduceAdd, Nat.reduceLT, Nat.reduceLeDiff, Nat.reduceEqDiff, reduceIte, Int.reduceEq, reduceCtorEq, g0]
     · simp only [go_sem, AE, AA, AC, AB, KB_n, KB_x, Nat.reduceBEq, Nat.reduceAdd, Nat.reduceLT, Nat.reduceLeDiff, Nat.reduceEqDiff, reduceIte, Int.reduceEq, reduceCtorEq, g3]
     · simp only [go_sem, AE, AA, AC, AB, KB_n, KB_x, Nat.reduceBEq, Nat.reduceAdd, Nat.reduceLT, Nat.reduceLeDiff, Nat.reduceEqDiff, reduceIte, Int.reduceEq, reduceCtorEq, g4]
     · simp only [go_sem, AE, AA, AC, AB, KB_n, KB_x, Nat.reduceBEq, Nat.reduceAdd, Nat.reduceLT, Nat.reduceLeDiff, Nat.reduceEqDiff, reduceIte, Int.reduceEq, reduceCtorEq]
     clear g0 g3 g4 e
     intro e b g0 g3 g4 g5 hbl hgt hle
     refine UI ?_
     refine (VQ _ _).2 ?_
     refine Ve (M := M) (i := i) (b := b) (x := z) H (by omega) hz hbl g0 g3 g4 g5 hle ?_ ?_
     · intro e' y hy hyx g0 g3 g4
       simp only [go_sem, AE, AA, AC, AB, KB_n, KB_x, Nat.reduceBEq, Nat.reduceAdd, Nat.reduceLT, Nat.reduceLeDiff, Nat.reduceEqDiff, reduceIte, Int.reduceEq, reduceCtorEq, g0, g3, g4, hw1]
       refine ⟨x - 1, by omega, i + 1, L, a, fr, by omega, by omega, hasc, fun u => ?_, H, rfl, rfl⟩
       rw [htk, List.mem_append, List.mem_singleton, hmem u]
       constructor
       · exact .inl
       · rintro (hu | rfl)
         · exact hu
         · rw [← hyx]; exact (hmem y).1 (List.mem_of_getElem? hy)
     · intro e' hle' g0 g3 g4 g5
       obtain ⟨a2, q2, d2, y2, _, ⟨fr2, H2⟩, n2⟩ := H.slc 0 (lo := none) (hi := some (.i .i64 (b : Nat))) (p := 0) (q := b) rfl (by simp only [Bl, AI, List.length_map]; rw [if_pos ⟨Nat.zero_le _, hbl⟩])
       obtain ⟨a3, q3, d3, H3, n3, _⟩ := H2.appN (es := 1) 9 (a := .sl 1 [] .full) (xs := []) (.inr (.inr (.inl rfl))) y2 (by simp; omega)
       obtain ⟨a4, q4, d4, H4, n4, _⟩ := H3.app 0 (y := .sl 1 [.s z] .full) (ys := [.s z]) rfl (by simp [elems, St.ok]) (by simp; omega)
       obtain ⟨a5, q5, d5, y5, _, ⟨fr5, H5⟩, n5⟩ := H4.slc 1 (lo := some (.i .i64 (b : Nat))) (hi := none) (p := b) (q := L.length) rfl (by simp only [Bl, AI, List.length_map]; rw [if_pos ⟨hbl, Nat.le_refl _⟩])
       obtain ⟨a6, q6, d6, H6, n6, _⟩ := H5.app 0 rfl y5 (by simp; omega)
       have H7 := H6.sel [0] [] (by simp) (by simp)
       have hpin := putT hasc hbl hgt hle'
       have hal0 : Af 1 [] = true := rfl
       have hal1 : Af 1 [AV.s z] = true := rfl
       simp only [go_sem, AE, AA, AC, AB, KB_n, KB_x, Nat.reduceBEq, Nat.reduceAdd, Nat.reduceLT, Nat.reduceLeDiff, Nat.reduceEqDiff, reduceIte, Int.reduceEq, reduceCtorEq, g0, g3, g4, g5, hal0, hal1, d2, d3, d4, d5, d6, AI, hz2, BQ, Dn, hw1]
       refine ⟨x - 1, by omega, i + 1, L.take b ++ ([z] ++ L.drop b), a6, true, by omega, ?_, hpin.1, fun u => ?_, ?_, rfl, rfl⟩
       · simp; omega
       · rw [hpin.2 u, htk, List.mem_append, List.mem_singleton, hmem u]
       · have hxs : (([] ++ ((L.map AV.s).drop 0).take (b - 0)) ++ [AV.s z]) ++ ((L.map AV.s).drop b).take (L.length - b) = (L.take b ++ ([z] ++ L.drop b)).map .s := by
          have e1 : ((L.map AV.s).drop b).take (L.length - b) = (L.drop b).map .s := by rw [List.take_of_length_le (by simp), List.map_drop]
          have e2 : (([] : List AV) ++ ((L.map AV.s).drop 0).take (b - 0)) = (L.take b).map .s := by rw [List.nil_append, List.drop_zero, Nat.sub_zero, List.map_take]
          rw [e1, e2, List.map_append, List.map_append, List.append_assoc]
          rfl
         have H8 : Hp s q6 s.en [⟨1, 9, a6, (([] ++ ((L.map AV.s).drop 0).take (b - 0)) ++ [AV.s z]) ++ ((L.map AV.s).drop b).take (L.length - b), true⟩] [] := H7
         rw [hxs] at H8
         exact H8
   · have h1 : ((i : Int) < (M.length : Int)) = False := eq_false (by omega)
     obtain ⟨a', q2, d', t', H', n'⟩ := H.pub 0 rfl
     have dA : pubA q' a = some (a', q2) := by
      rw [MQ (H.rows (i := 0) rfl)]; exact d'
     have href : a'.refs = false := t'.refs (ID _)
     simp only [go_sem, AE, AA, AC, AB, KB_n, KB_x, Nat.reduceBEq, Nat.reduceAdd, Nat.reduceLT, Nat.reduceLeDiff, Nat.reduceEqDiff, reduceIte, Int.reduceEq, reduceCtorEq, g0, g3, g4, List.length_map, h1, hla, dA]
     refine ⟨_, _, rfl, L, ?_, ?_, hasc, fun u => ?_⟩
     · simp only [Ca, wkZ, t'.wk (Jn _)]
     · exact H'.over.leave href
     · rw [hmem u, List.take_of_length_le (by omega)]
 · simp only [go_sem, AE, AA, AC, AB, KB_n, KB_x, Nat.reduceBEq, Nat.reduceAdd, Nat.reduceLT, Nat.reduceLeDiff, Nat.reduceEqDiff, reduceIte, Int.reduceEq, reduceCtorEq]
   exact ⟨0, [], .nsl, true, by omega, by simp, by simp, by simp, H1.addFull 1 9 true .nil, rfl, rfl⟩
theorem QO (M : List (List Nat)) (hM : M.length < 2 ^ 36) (Z : List (List Nat)) (id m0 : Nat) (fz : Bool) (s : St) (hw : Wf s) (hid : id < s.nb) (hbx : s.box? id = some (.row 9 ((M ++ Z).map .s) fz 0)) : ∃ r s', (lim prog).call AZ [.bl id 1 0 M.length (m0, false)] s = some (r, s') ∧ ∃ L, r = tx L ∧ s' = s ∧ L.Pairwise (fun x y => ltN x y = true) ∧ ∀ x, x ∈ L ↔ x ∈ M := by
 refine fn_G Ch rfl rfl ?_
 have hz0 : wkZ AJ.cin [.bl id 1 0 M.length (m0, false)] = [.bl id 1 0 M.length (m0, false)] := by simp [AJ, wkZ, wk, Jn]
 rw [hz0]
 have H1 := Hp.begin hw
 generalize hq : s.enter = q at H1
 simp only [AJ, go_sem, AE, AA, AC, AB, KB_n, KB_x, Nat.reduceBEq, Nat.reduceAdd, Nat.reduceLT, Nat.reduceLeDiff, Nat.reduceEqDiff, reduceIte, Int.reduceEq, reduceCtorEq]
 refine DN (fun x e q => ∃ (i : Nat) (L : List (List Nat)) (a : AV) (fr : Bool), i + x = M.length ∧ L.length ≤ i ∧ L.Pairwise (fun x y => ltN x y = true) ∧ (∀ x, x ∈ L ↔ x ∈ M.take i) ∧ Hp s q s.en [⟨1, 9, a, L.map .s, fr⟩] [] ∧ e.get 0 = .bl id 1 0 M.length (m0, false) ∧ e.get 3 = a ∧ e.get 4 = .i .i64 (i : Nat)) ?_ M.length _ _ ?_
 · rintro x e q' ⟨i, L, a, fr, hix, hll, hasc, hmem, H, g0, g3, g4⟩
   have hla := PX (H.rows (i := 0) rfl) q'
   simp only [List.length_map] at hla
   have hbq : q'.box? id = some (.row 9 ((M ++ Z).map .s) fz 0) := by rw [ovB H.over H.wf hw hid]; exact hbx
   by_cases h : i < M.length
   · have h1 : ((i : Int) < (M.length : Int)) = True := eq_true (by omega)
     obtain ⟨z, hz⟩ : ∃ z, M[i]? = some z := ⟨_, List.getElem?_eq_getElem h⟩
     have hz2 := Jt hz
     have hw1 := BO (show i + 1 < 2 ^ 63 by omega)
     have htk : M.take (i + 1) = M.take i ++ [z] := by rw [List.take_add_one, hz]; rfl
     simp only [go_sem, AE, AA, AC, AB, KB_n, KB_x, Nat.reduceBEq, Nat.reduceAdd, Nat.reduceLT, Nat.reduceLeDiff, Nat.reduceEqDiff, reduceIte, Int.reduceEq, reduceCtorEq, g0, g3, g4, List.length_map, h1, hla]
     refine Tq (m0 := m0) (M := M) (i := i) (x := z) H (by omega) hz hbq ?_ ?_ ?_ ?_ ?_
     · simp only [go_sem, AE, AA, AC, AB, KB_n, KB_x, Nat.reduceBEq, Nat.reduceAdd, Nat.reduceLT, Nat.reduceLeDiff, Nat.reduceEqDiff, reduceIte, Int.reduceEq, reduceCtorEq, g0]
     · simp only [go_sem, AE, AA, AC, AB, KB_n, KB_x, Nat.reduceBEq, Nat.reduceAdd, Nat.reduceLT, Nat.reduceLeDiff, Nat.reduceEqDiff, reduceIte, Int.reduceEq, reduceCtorEq, g3]
     · simp only [go_sem, AE, AA, AC, AB, KB_n, KB_x, Nat.reduceBEq, Nat.reduceAdd, Nat.reduceLT, Nat.reduceLeDiff, Nat.reduceEqDiff, reduceIte, Int.reduceEq, reduceCtorEq, g4]
     · simp only [go_sem, AE, AA, AC, AB, KB_n, KB_x, Nat.reduceBEq, Nat.reduceAdd, Nat.reduceLT, Nat.reduceLeDiff, Nat.reduceEqDiff, reduceIte, Int.reduceEq, reduceCtorEq]
     clear g0 g3 g4 e
     intro e b g0 g3 g4 g5 hbl hgt hle
     refine UI ?_
     refine (VQ _ _).2 ?_
     refine Ts (m0 := m0) (M := M) (i := i) (b := b) (x := z) H (by omega) hz hbq hbl g0 g3 g4 g5 hle ?_ ?_
     · intro e' y hy hyx g0 g3 g4
       simp only [go_sem, AE, AA, AC, AB, KB_n, KB_x, Nat.reduceBEq, Nat.reduceAdd, Nat.reduceLT, Nat.reduceLeDiff, Nat.reduceEqDiff, reduceIte, Int.reduceEq, reduceCtorEq, g0, g3, g4, hw1]
       refine ⟨x - 1, by omega, i + 1, L, a, fr, by omega, by omega, hasc, fun u => ?_, H, rfl, rfl⟩
       rw [htk, List.mem_append, List.mem_singleton, hmem u]
       constructor
       · exact .inl
       · rintro (hu | rfl)
         · exact hu
         · rw [← hyx]; exact (hmem y).1 (List.mem_of_getElem? hy)
     · intro e' hle' g0 g3 g4 g5
       obtain ⟨a2, q2, d2, y2, _, ⟨fr2, H2⟩, n2⟩ := H.slc 0 (lo := none) (hi := some (.i .i64 (b : Nat))) (p := 0) (q := b) rfl (by simp only [Bl, AI, List.length_map]; rw [if_pos ⟨Nat.zero_le _, hbl⟩])
       obtain ⟨a3, q3, d3, H3, n3, _⟩ := H2.appN (es := 1) 9 (a := .sl 1 [] .full) (xs := []) (.inr (.inr (.inl rfl))) y2 (by simp; omega)
       obtain ⟨a4, q4, d4, H4, n4, _⟩ := H3.app 0 (y := .sl 1 [.s z] .full) (ys := [.s z]) rfl (by simp [elems, St.ok]) (by simp; omega)
       obtain ⟨a5, q5, d5, y5, _, ⟨fr5, H5⟩, n5⟩ := H4.slc 1 (lo := some (.i .i64 (b : Nat))) (hi := none) (p := b) (q := L.length) rfl (by simp only [Bl, AI, List.length_map]; rw [if_pos ⟨hbl, Nat.le_refl _⟩])
       obtain ⟨a6, q6, d6, H6, n6, _⟩ := H5.app 0 rfl y5 (by simp; omega)
       have H7 := H6.sel [0] [] (by simp) (by simp)
       have hpin := putT hasc hbl hgt hle'
       have hal0 : Af 1 [] = true := rfl
       have hal1 : Af 1 [AV.s z] = true := rfl
       have hil : (i < M.length) = True := eq_true h
       have hb4 : q4.box? id = some (.row 9 ((M ++ Z).map .s) fz 0) := by rw [ovB H4.over H4.wf hw hid]; exact hbx
       have hb3 : q3.box? id = some (.row 9 ((M ++ Z).map .s) fz 0) := by rw [ovB H3.over H3.wf hw hid]; exact hbx
       have lr3 := My hz hb3
       simp only [go_sem, AE, AA, AC, AB, KB_n, KB_x, Nat.reduceBEq, Nat.reduceAdd, Nat.reduceLT, Nat.reduceLeDiff, Nat.reduceEqDiff, reduceIte, Int.reduceEq, reduceCtorEq, g0, g3, g4, g5, hal0, hal1, d2, d3, d4, d5, d6, AI, hil, lr3, BQ, Dn, hw1]
       refine ⟨x - 1, by omega, i + 1, L.take b ++ ([z] ++ L.drop b), a6, true, by omega, ?_, hpin.1, fun u => ?_, ?_, rfl, rfl⟩
       · simp; omega
       · rw [hpin.2 u, htk, List.mem_append, List.mem_singleton, hmem u]
       · have hxs : (([] ++ ((L.map AV.s).drop 0).take (b - 0)) ++ [AV.s z]) ++ ((L.map AV.s).drop b).take (L.length - b) = (L.take b ++ ([z] ++ L.drop b)).map .s := by
          have e1 : ((L.map AV.s).drop b).take (L.length - b) = (L.drop b).map .s := by rw [List.take_of_length_le (by simp), List.map_drop]
          have e2 : (([] : List AV) ++ ((L.map AV.s).drop 0).take (b - 0)) = (L.take b).map .s := by rw [List.nil_append, List.drop_zero, Nat.sub_zero, List.map_take]
          rw [e1, e2, List.map_append, List.map_append, List.append_assoc]
          rfl
         have H8 : Hp s q6 s.en [⟨1, 9, a6, (([] ++ ((L.map AV.s).drop 0).take (b - 0)) ++ [AV.s z]) ++ ((L.map AV.s).drop b).take (L.length - b), true⟩] [] := H7
         rw [hxs] at H8
         exact H8
   · have h1 : ((i : Int) < (M.length : Int)) = False := eq_false (by omega)
     obtain ⟨a', q2, d', t', H', n'⟩ := H.pub 0 rfl
     have dA : pubA q' a = some (a', q2) := by
      rw [MQ (H.rows (i := 0) rfl)]; exact d'
     have href : a'.refs = false := t'.refs (ID _)
     simp only [go_sem, AE, AA, AC, AB, KB_n, KB_x, Nat.reduceBEq, Nat.reduceAdd, Nat.reduceLT, Nat.reduceLeDiff, Nat.reduceEqDiff, reduceIte, Int.reduceEq, reduceCtorEq, g0, g3, g4, List.length_map, h1, hla, dA]
     refine ⟨_, _, rfl, L, ?_, ?_, hasc, fun u => ?_⟩
     · simp only [Ca, wkZ, t'.wk (Jn _)]
     · exact H'.over.leave href
     · rw [hmem u, List.take_of_length_le (by omega)]
 · simp only [go_sem, AE, AA, AC, AB, KB_n, KB_x, Nat.reduceBEq, Nat.reduceAdd, Nat.reduceLT, Nat.reduceLeDiff, Nat.reduceEqDiff, reduceIte, Int.reduceEq, reduceCtorEq]
   exact ⟨0, [], .nsl, true, by omega, by simp, by simp, by simp, H1.addFull 1 9 true .nil, rfl, rfl⟩

theorem SN (M N : List (List Nat)) (hM : M.length < 2 ^ 37) (hN : N.length < 2 ^ 37) (s : St) (hw : Wf s) : (lim prog).call Bt [tx M, tx N] s = some (.b (decide (M = N.take M.length)), s) := by
 refine fn_W D3 rfl rfl ?_
 have hz0 : wkZ AR.cin [tx M, tx N] = [tx M, tx N] := by simp [AR, wkZ, wk, Jn]
 rw [hz0]
 have H1 := Hp.begin hw
 generalize hq : s.enter = q at H1
 by_cases hlen : N.length < M.length
 · have e0 : ((N.length : Int) < (M.length : Int)) = True := eq_true (by omega)
   have hne : ¬ M = N.take M.length := fun h => by have := congrArg List.length h; rw [List.length_take] at this; omega
   simp only [AR, go_sem, AE, AA, AC, AB, KB_n, KB_x, Nat.reduceBEq, Nat.reduceAdd, Nat.reduceLT, Nat.reduceLeDiff, Nat.reduceEqDiff, reduceIte, Int.reduceEq, reduceCtorEq, List.length_map, e0]
   rw [decide_eq_false hne]
   exact AM H1.over rfl rfl
 have e0 : ((N.length : Int) < (M.length : Int)) = False := eq_false (by omega)
 simp only [AR, go_sem, AE, AA, AC, AB, KB_n, KB_x, Nat.reduceBEq, Nat.reduceAdd, Nat.reduceLT, Nat.reduceLeDiff, Nat.reduceEqDiff, reduceIte, Int.reduceEq, reduceCtorEq, List.length_map, e0]
 refine DN (fun x e q' => ∃ i : Nat, i + x = M.length ∧ M.take i = N.take i ∧ q' = q ∧ e.get 0 = tx M ∧ e.get 1 = tx N ∧ e.get 5 = .i .i64 (i : Nat)) ?_ M.length _ _ ?_
 · rintro x e q' ⟨i, hix, heq, rfl, g0, g1, g5⟩
   by_cases h : i < M.length
   · have h1 : ((i : Int) < (M.length : Int)) = True := eq_true (by omega)
     obtain ⟨y, hy⟩ : ∃ y, M[i]? = some y := ⟨_, List.getElem?_eq_getElem h⟩
     obtain ⟨z, hz⟩ : ∃ z, N[i]? = some z := ⟨_, List.getElem?_eq_getElem (by omega)⟩
     have hy2 := Jt hy
     have hz2 := Jt hz
     have hw1 := BO (show i + 1 < 2 ^ 63 by omega)
     by_cases hyz : y = z
     · have e2 : (y ≠ z) = False := eq_false (fun h => h hyz)
       simp only [go_sem, AE, AA, AC, AB, KB_n, KB_x, Nat.reduceBEq, Nat.reduceAdd, Nat.reduceLT, Nat.reduceLeDiff, Nat.reduceEqDiff, reduceIte, Int.reduceEq, reduceCtorEq, g0, g1, g5, List.length_map, h1, AI, hy2, hz2, BQ, Dn, e2, hw1]
       refine ⟨x - 1, by omega, i + 1, by omega, ?_, rfl⟩
       rw [List.take_add_one, List.take_add_one, hy, hz, heq, hyz]
     · have e2 : (y ≠ z) = True := eq_true hyz
       have hne : ¬ M = N.take M.length := fun hh => by
        have : M[i]? = (N.take M.length)[i]? := by rw [← hh]
        rw [hy, List.getElem?_take, if_pos h, hz] at this
        exact hyz (Option.some.inj this)
       simp only [go_sem, AE, AA, AC, AB, KB_n, KB_x, Nat.reduceBEq, Nat.reduceAdd, Nat.reduceLT, Nat.reduceLeDiff, Nat.reduceEqDiff, reduceIte, Int.reduceEq, reduceCtorEq, g0, g1, g5, List.length_map, h1, AI, hy2, hz2, BQ, Dn, e2]
       rw [decide_eq_false hne]
       exact AM H1.over rfl rfl
   · have h1 : ((i : Int) < (M.length : Int)) = False := eq_false (by omega)
     have hi : i = M.length := by omega
     subst hi
     have hyes : M = N.take M.length := by rw [← heq, List.take_length]
     simp only [go_sem, AE, AA, AC, AB, KB_n, KB_x, Nat.reduceBEq, Nat.reduceAdd, Nat.reduceLT, Nat.reduceLeDiff, Nat.reduceEqDiff, reduceIte, Int.reduceEq, reduceCtorEq, g0, g1, g5, List.length_map, h1]
     rw [decide_eq_true hyes]
     exact AM H1.over rfl rfl
 · simp only [go_sem, AE, AA, AC, AB, KB_n, KB_x, Nat.reduceBEq, Nat.reduceAdd, Nat.reduceLT, Nat.reduceLeDiff, Nat.reduceEqDiff, reduceIte, Int.reduceEq, reduceCtorEq]
   exact ⟨0, by omega, by simp, rfl⟩
theorem To (M N : List (List Nat)) (hM : M.length < 2 ^ 37) (hN : N.length < 2 ^ 37) (s : St) (hw : Wf s) : (lim prog).call Aw [tx M, tx N] s = some (.b (decide (M = N)), s) := by
 refine fn_W Cx rfl rfl ?_
 have hz0 : wkZ AO.cin [tx M, tx N] = [tx M, tx N] := by simp [AO, wkZ, wk, Jn]
 rw [hz0]
 have H1 := Hp.begin hw
 generalize hq : s.enter = q at H1
 by_cases hlen : M.length = N.length
 · have e0 : ((M.length : Int) = (N.length : Int)) = True := eq_true (by omega)
   have hu := SN M N hM hN q H1.wf
   have hd : decide (M = N.take M.length) = decide (M = N) := by rw [hlen, List.take_length]
   rw [hd] at hu
   simp only [AO, go_sem, AE, AA, AC, AB, KB_n, KB_x, Nat.reduceBEq, Nat.reduceAdd, Nat.reduceLT, Nat.reduceLeDiff, Nat.reduceEqDiff, reduceIte, Int.reduceEq, reduceCtorEq, List.length_map, e0, E1, hu]
   exact AM H1.over rfl rfl
 · have e0 : ((M.length : Int) = (N.length : Int)) = False := eq_false (by omega)
   have hne : ¬ M = N := fun h => hlen (by rw [h])
   simp only [AO, go_sem, AE, AA, AC, AB, KB_n, KB_x, Nat.reduceBEq, Nat.reduceAdd, Nat.reduceLT, Nat.reduceLeDiff, Nat.reduceEqDiff, reduceIte, Int.reduceEq, reduceCtorEq, List.length_map, e0]
   rw [decide_eq_false hne]
   exact AM H1.over rfl rfl
theorem SO (M N : List (List Nat)) (hM : M.length < 2 ^ 37) (hN : N.length < 2 ^ 37) (Z : List (List Nat)) (id m0 : Nat) (fz : Bool) (s : St) (hw : Wf s) (hid : id < s.nb) (hbx : s.box? id = some (.row 9 ((M ++ Z).map .s) fz 0)) : (lim prog).call Bt [.bl id 1 0 M.length (m0, false), tx N] s = some (.b (decide (M = N.take M.length)), s) := by
 refine fn_W D3 rfl rfl ?_
 have hz0 : wkZ AR.cin [.bl id 1 0 M.length (m0, false), tx N] = [.bl id 1 0 M.length (m0, false), tx N] := by simp [AR, wkZ, wk, Jn]
 rw [hz0]
 have H1 := Hp.begin hw
 generalize hq : s.enter = q at H1
 by_cases hlen : N.length < M.length
 · have e0 : ((N.length : Int) < (M.length : Int)) = True := eq_true (by omega)
   have hne : ¬ M = N.take M.length := fun h => by have := congrArg List.length h; rw [List.length_take] at this; omega
   simp only [AR, go_sem, AE, AA, AC, AB, KB_n, KB_x, Nat.reduceBEq, Nat.reduceAdd, Nat.reduceLT, Nat.reduceLeDiff, Nat.reduceEqDiff, reduceIte, Int.reduceEq, reduceCtorEq, List.length_map, e0]
   rw [decide_eq_false hne]
   exact AM H1.over rfl rfl
 have e0 : ((N.length : Int) < (M.length : Int)) = False := eq_false (by omega)
 simp only [AR, go_sem, AE, AA, AC, AB, KB_n, KB_x, Nat.reduceBEq, Nat.reduceAdd, Nat.reduceLT, Nat.reduceLeDiff, Nat.reduceEqDiff, reduceIte, Int.reduceEq, reduceCtorEq, List.length_map, e0]
 refine DN (fun x e q' => ∃ i : Nat, i + x = M.length ∧ M.take i = N.take i ∧ q' = q ∧ e.get 0 = .bl id 1 0 M.length (m0, false) ∧ e.get 1 = tx N ∧ e.get 5 = .i .i64 (i : Nat)) ?_ M.length _ _ ?_
 · rintro x e q' ⟨i, hix, heq, rfl, g0, g1, g5⟩
   have hbq : q'.box? id = some (.row 9 ((M ++ Z).map .s) fz 0) := by rw [ovB H1.over H1.wf hw hid]; exact hbx
   by_cases h : i < M.length
   · have h1 : ((i : Int) < (M.length : Int)) = True := eq_true (by omega)
     obtain ⟨y, hy⟩ : ∃ y, M[i]? = some y := ⟨_, List.getElem?_eq_getElem h⟩
     obtain ⟨z, hz⟩ : ∃ z, N[i]? = some z := ⟨_, List.getElem?_eq_getElem (by omega)⟩
     have hy2 := Jt hy
     have hz2 := Jt hz
     have hw1 := BO (show i + 1 < 2 ^ 63 by omega)
     have hil : (i < M.length) = True := eq_true h
     have lr3 := My hy hbq
     by_cases hyz : y = z
     · have e2 : (y ≠ z) = False := eq_false (fun h => h hyz)
       simp only [go_sem, AE, AA, AC, AB, KB_n, KB_x, Nat.reduceBEq, Nat.reduceAdd, Nat.reduceLT, Nat.reduceLeDiff, Nat.reduceEqDiff, reduceIte, Int.reduceEq, reduceCtorEq, g0, g1, g5, List.length_map, h1, AI, hil, lr3, hz2, BQ, Dn, e2, hw1]
       refine ⟨x - 1, by omega, i + 1, by omega, ?_, rfl⟩
       rw [List.take_add_one, List.take_add_one, hy, hz, heq, hyz]
     · have e2 : (y ≠ z) = True := eq_true hyz
       have hne : ¬ M = N.take M.length := fun hh => by
        have : M[i]? = (N.take M.length)[i]? := by rw [← hh]
        rw [hy, List.getElem?_take, if_pos h, hz] at this
        exact hyz (Option.some.inj this)
       simp only [go_sem, AE, AA, AC, AB, KB_n, KB_x, Nat.reduceBEq, Nat.reduceAdd, Nat.reduceLT, Nat.reduceLeDiff, Nat.reduceEqDiff, reduceIte, Int.reduceEq, reduceCtorEq, g0, g1, g5, List.length_map, h1, AI, hil, lr3, hz2, BQ, Dn, e2]
       rw [decide_eq_false hne]
       exact AM H1.over rfl rfl
   · have h1 : ((i : Int) < (M.length : Int)) = False := eq_false (by omega)
     have hi : i = M.length := by omega
     subst hi
     have hyes : M = N.take M.length := by rw [← heq, List.take_length]
     simp only [go_sem, AE, AA, AC, AB, KB_n, KB_x, Nat.reduceBEq, Nat.reduceAdd, Nat.reduceLT, Nat.reduceLeDiff, Nat.reduceEqDiff, reduceIte, Int.reduceEq, reduceCtorEq, g0, g1, g5, List.length_map, h1]
     rw [decide_eq_true hyes]
     exact AM H1.over rfl rfl
 · simp only [go_sem, AE, AA, AC, AB, KB_n, KB_x, Nat.reduceBEq, Nat.reduceAdd, Nat.reduceLT, Nat.reduceLeDiff, Nat.reduceEqDiff, reduceIte, Int.reduceEq, reduceCtorEq]
   exact ⟨0, by omega, by simp, rfl⟩
theorem Tp (M N : List (List Nat)) (hM : M.length < 2 ^ 37) (hN : N.length < 2 ^ 37) (Z : List (List Nat)) (id m0 : Nat) (fz : Bool) (s : St) (hw : Wf s) (hid : id < s.nb) (hbx : s.box? id = some (.row 9 ((M ++ Z).map .s) fz 0)) : (lim prog).call Aw [.bl id 1 0 M.length (m0, false), tx N] s = some (.b (decide (M = N)), s) := by
 refine fn_W Cx rfl rfl ?_
 have hz0 : wkZ AO.cin [.bl id 1 0 M.length (m0, false), tx N] = [.bl id 1 0 M.length (m0, false), tx N] := by simp [AO, wkZ, wk, Jn]
 rw [hz0]
 have H1 := Hp.begin hw
 generalize hq : s.enter = q at H1
 have hbq : q.box? id = some (.row 9 ((M ++ Z).map .s) fz 0) := by rw [ovB H1.over H1.wf hw hid]; exact hbx
 by_cases hlen : M.length = N.length
 · have e0 : ((M.length : Int) = (N.length : Int)) = True := eq_true (by omega)
   have hu := SO M N hM hN Z id m0 fz q H1.wf (by have := H1.over.nb; omega) hbq
   have hd : decide (M = N.take M.length) = decide (M = N) := by rw [hlen, List.take_length]
   rw [hd] at hu
   simp only [AO, go_sem, AE, AA, AC, AB, KB_n, KB_x, Nat.reduceBEq, Nat.reduceAdd, Nat.reduceLT, Nat.reduceLeDiff, Nat.reduceEqDiff, reduceIte, Int.reduceEq, reduceCtorEq, List.length_map, e0, E1, hu]
   exact AM H1.over rfl rfl
 · have e0 : ((M.length : Int) = (N.length : Int)) = False := eq_false (by omega)
   have hne : ¬ M = N := fun h => hlen (by rw [h])
   simp only [AO, go_sem, AE, AA, AC, AB, KB_n, KB_x, Nat.reduceBEq, Nat.reduceAdd, Nat.reduceLT, Nat.reduceLeDiff, Nat.reduceEqDiff, reduceIte, Int.reduceEq, reduceCtorEq, List.length_map, e0]
   rw [decide_eq_false hne]
   exact AM H1.over rfl rfl

theorem SP (a : Int) : Am.binOp .quo (.i .i64 a) (.i .i64 100) = some (.i .i64 (IntKind.i64.wrap (a.tdiv 100))) := rfl
theorem ild0 (y : IT) (s : St) : ldA s false 1 (.ep y.cells 0 .shut) = some (.ws false 3 (y.parts.map PT.av)) := rfl
theorem pld1 (p : PT) (s : St) : ldA s false 1 (.ep p.cells 1 .shut) = some (.s p.text) := rfl
theorem Lx : ∀ n : IN, n.Ok → ∀ s, Wf s → ∃ z : Int, (lim prog).call BE [.agg n.cells] s = some (.i .i64 z, s) := by
 refine IN.ind fun n ih ho s hw => ?_
 suffices h : ∃ r s', (lim prog).call BE [.agg n.cells] s = some (r, s') ∧ ∃ z : Int, r = .i .i64 z ∧ s' = s by
  obtain ⟨r, s', h1, z, rfl, rfl⟩ := h
  exact ⟨z, h1⟩
 refine fn_G Gi rfl rfl ?_
 have hz0 : wkZ Ae.cin [.agg n.cells] = [.agg n.cells] := by simp [Ae, wkZ, wk, IN.cells, itx]
 rw [hz0]
 have e0 : s.enter.nb = s.nb := rfl
 have H1 := (Hp.begin hw).new (.cells 25 n.cells)
 obtain ⟨q1, hq1⟩ : ∃ q1, s.enter.new (.cells 25 n.cells) = q1 := ⟨_, rfl⟩
 rw [hq1, e0] at H1
 have l1 := H1.ld 0 (off := 1) (v := .s n.name) rfl rfl
 have l2 := H1.ld 0 (off := 2) (v := .ws false 2 (n.items.map IT.av)) rfl rfl
 have l3 := H1.ld 0 (off := 3) (v := .ws false 4 (n.kids.map IN.av)) rfl rfl
 have hil := ho.items.2
 have hkl := ho.kids.2
 have hlv : ∀ v : AV, v.refs = false → leave s q1 v = s := fun v hv => H1.over.leave hv
 have fin : ∀ z : Int, ∃ vs s2, (some ([AV.i .i64 z], q1) : Option (List AV × St)) = some (vs, s2) ∧ ∃ z' : Int, Ca (wkZ [.id] vs) = .i .i64 z' ∧ leave s s2 (Ca vs) = s := fun z => ⟨_, _, rfl, z, rfl, hlv _ rfl⟩
 by_cases hi : 300 < n.items.length
 · have e1 : ((300 : Int) < (n.items.length : Int)) = True := eq_true (by omega)
   simp only [Ae, go_sem, AE, AA, AC, AB, KB_n, KB_x, Nat.reduceBEq, Nat.reduceAdd, Nat.reduceLT, Nat.reduceLeDiff, Nat.reduceEqDiff, reduceIte, Int.reduceEq, reduceCtorEq, nc4, hq1, e0, l1, l2, l3, List.length_map, e1]
   exact fin 1000
 have e1 : ((300 : Int) < (n.items.length : Int)) = False := eq_false (by omega)
 by_cases hk : 300 < n.kids.length
 · have e2 : ((300 : Int) < (n.kids.length : Int)) = True := eq_true (by omega)
   simp only [Ae, go_sem, AE, AA, AC, AB, KB_n, KB_x, Nat.reduceBEq, Nat.reduceAdd, Nat.reduceLT, Nat.reduceLeDiff, Nat.reduceEqDiff, reduceIte, Int.reduceEq, reduceCtorEq, nc4, hq1, e0, l1, l2, l3, List.length_map, e1, e2]
   exact fin 1000
 have e2 : ((300 : Int) < (n.kids.length : Int)) = False := eq_false (by omega)
 by_cases hn : 300 < n.name.length
 · have e3 : ((300 : Int) < (n.name.length : Int)) = True := eq_true (by omega)
   simp only [Ae, go_sem, AE, AA, AC, AB, KB_n, KB_x, Nat.reduceBEq, Nat.reduceAdd, Nat.reduceLT, Nat.reduceLeDiff, Nat.reduceEqDiff, reduceIte, Int.reduceEq, reduceCtorEq, nc4, hq1, e0, l1, l2, l3, List.length_map, e1, e2, e3]
   exact fin 1000
 have e3 : ((300 : Int) < (n.name.length : Int)) = False := eq_false (by omega)
 simp only [Ae, go_sem, AE, AA, AC, AB, KB_n, KB_x, Nat.reduceBEq, Nat.reduceAdd, Nat.reduceLT, Nat.reduceLeDiff, Nat.reduceEqDiff, reduceIte, Int.reduceEq, reduceCtorEq, nc4, hq1, e0, l1, l2, l3, List.length_map, e1, e2, e3]
 refine DN (fun x e q' => ∃ (i : Nat) (z : Int), i + x = n.items.length ∧ q' = q1 ∧ e.get 1 = .p s.nb 0 ∧ e.get 3 = .i .i64 z ∧ e.get 4 = .i .i64 (i : Nat)) ?_ n.items.length _ _ ?_
 · rintro x e q' ⟨i, z, hix, hqq, g1, g3, g4⟩
   subst q'
   by_cases h : i < n.items.length
   · have h1 : ((i : Int) < (n.items.length : Int)) = True := eq_true (by omega)
     obtain ⟨y, hy⟩ : ∃ y, n.items[i]? = some y := ⟨_, List.getElem?_eq_getElem h⟩
     have hg := R3 hy
     have hyl := (ho.items.1 y (List.mem_of_getElem? hy)).len
     have hw1 := BO (show i + 1 < 2 ^ 63 by omega)
     by_cases hp : 100 < y.parts.length
     · have f1 : ((100 : Int) < (y.parts.length : Int)) = True := eq_true (by omega)
       simp only [go_sem, AE, AA, AC, AB, KB_n, KB_x, Nat.reduceBEq, Nat.reduceAdd, Nat.reduceLT, Nat.reduceLeDiff, Nat.reduceEqDiff, reduceIte, Int.reduceEq, reduceCtorEq, g1, g3, g4, l2, List.length_map, h1, AI, hg, ild0, f1]
       exact fin 1000
     have f1 : ((100 : Int) < (y.parts.length : Int)) = False := eq_false (by omega)
     simp only [go_sem, AE, AA, AC, AB, KB_n, KB_x, Nat.reduceBEq, Nat.reduceAdd, Nat.reduceLT, Nat.reduceLeDiff, Nat.reduceEqDiff, reduceIte, Int.reduceEq, reduceCtorEq, g1, g3, g4, l2, List.length_map, h1, AI, hg, ild0, f1]
     refine DN (fun u e q' => ∃ (j : Nat) (z : Int), j + u = y.parts.length ∧ q' = q1 ∧ e.get 1 = .p s.nb 0 ∧ e.get 3 = .i .i64 z ∧ e.get 4 = .i .i64 (i : Nat) ∧ e.get 5 = .i .i64 (j : Nat)) ?_ y.parts.length _ _ ?_
     · clear g1 g3 g4
       rintro u e q' ⟨j, z, hju, hqq, g1, g3, g4, g5⟩
       subst q'
       by_cases hj : j < y.parts.length
       · have h2 : ((j : Int) < (y.parts.length : Int)) = True := eq_true (by omega)
         obtain ⟨p, hp⟩ : ∃ p, y.parts[j]? = some p := ⟨_, List.getElem?_eq_getElem hj⟩
         have hgp := Pc hp
         have hwj := BO (show j + 1 < 2 ^ 63 by omega)
         by_cases ht : 2000 < p.text.length
         · have f2 : ((2000 : Int) < (p.text.length : Int)) = True := eq_true (by omega)
           simp only [go_sem, AE, AA, AC, AB, KB_n, KB_x, Nat.reduceBEq, Nat.reduceAdd, Nat.reduceLT, Nat.reduceLeDiff, Nat.reduceEqDiff, reduceIte, Int.reduceEq, reduceCtorEq, g1, g3, g4, g5, l2, List.length_map, h2, AI, hg, ild0, hgp, pld1, f2]
           exact fin 1000
         have f2 : ((2000 : Int) < (p.text.length : Int)) = False := eq_false (by omega)
         simp only [go_sem, AE, AA, AC, AB, KB_n, KB_x, Nat.reduceBEq, Nat.reduceAdd, Nat.reduceLT, Nat.reduceLeDiff, Nat.reduceEqDiff, reduceIte, Int.reduceEq, reduceCtorEq, g1, g3, g4, g5, l2, List.length_map, h2, AI, hg, ild0, hgp, pld1, f2, SP, hwj]
         exact ⟨u - 1, by omega, j + 1, _, by omega, rfl, rfl⟩
       · have h2 : ((j : Int) < (y.parts.length : Int)) = False := eq_false (by omega)
         simp only [go_sem, AE, AA, AC, AB, KB_n, KB_x, Nat.reduceBEq, Nat.reduceAdd, Nat.reduceLT, Nat.reduceLeDiff, Nat.reduceEqDiff, reduceIte, Int.reduceEq, reduceCtorEq, g1, g3, g4, g5, l2, List.length_map, h2, AI, hg, ild0, hw1]
         exact ⟨x - 1, by omega, i + 1, z, by omega, rfl, rfl⟩
     · simp only [go_sem, AE, AA, AC, AB, KB_n, KB_x, Nat.reduceBEq, Nat.reduceAdd, Nat.reduceLT, Nat.reduceLeDiff, Nat.reduceEqDiff, reduceIte, Int.reduceEq, reduceCtorEq, g1, g3, g4]
       exact ⟨0, _, by omega, rfl, rfl⟩
   · have h1 : ((i : Int) < (n.items.length : Int)) = False := eq_false (by omega)
     simp only [go_sem, AE, AA, AC, AB, KB_n, KB_x, Nat.reduceBEq, Nat.reduceAdd, Nat.reduceLT, Nat.reduceLeDiff, Nat.reduceEqDiff, reduceIte, Int.reduceEq, reduceCtorEq, g1, g3, g4, l2, List.length_map, h1]
     refine DN (fun x e q' => ∃ (k : Nat) (z : Int), k + x = n.kids.length ∧ q' = q1 ∧ e.get 1 = .p s.nb 0 ∧ e.get 3 = .i .i64 z ∧ e.get 6 = .i .i64 (k : Nat)) ?_ n.kids.length _ _ ?_
     · clear g1 g3 g4
       rintro u e q' ⟨k, z, hku, hqq, g1, g3, g6⟩
       subst q'
       by_cases hk2 : k < n.kids.length
       · have h2 : ((k : Int) < (n.kids.length : Int)) = True := eq_true (by omega)
         obtain ⟨c, hc⟩ : ∃ c, n.kids[k]? = some c := ⟨_, List.getElem?_eq_getElem hk2⟩
         have hcm := List.mem_of_getElem? hc
         have hgc := R4 hc
         have hwk := BO (show k + 1 < 2 ^ 63 by omega)
         by_cases hz : z ≤ 400
         · have f2 : (z ≤ 400) = True := eq_true hz
           obtain ⟨z2, hc2⟩ := ih c hcm (ho.kids.1 c hcm) q1 H1.wf
           simp only [go_sem, AE, AA, AC, AB, KB_n, KB_x, Nat.reduceBEq, Nat.reduceAdd, Nat.reduceLT, Nat.reduceLeDiff, Nat.reduceEqDiff, reduceIte, Int.reduceEq, reduceCtorEq, g1, g3, g6, l3, List.length_map, h2, f2, AI, hgc, nld, E1, nc4, hc2, hwk]
           exact ⟨u - 1, by omega, k + 1, _, by omega, rfl, rfl⟩
         · have f2 : (z ≤ 400) = False := eq_false hz
           simp only [go_sem, AE, AA, AC, AB, KB_n, KB_x, Nat.reduceBEq, Nat.reduceAdd, Nat.reduceLT, Nat.reduceLeDiff, Nat.reduceEqDiff, reduceIte, Int.reduceEq, reduceCtorEq, g1, g3, g6, l3, List.length_map, h2, f2]
           exact fin z
       · have h2 : ((k : Int) < (n.kids.length : Int)) = False := eq_false (by omega)
         simp only [go_sem, AE, AA, AC, AB, KB_n, KB_x, Nat.reduceBEq, Nat.reduceAdd, Nat.reduceLT, Nat.reduceLeDiff, Nat.reduceEqDiff, reduceIte, Int.reduceEq, reduceCtorEq, g1, g3, g6, l3, List.length_map, h2]
         exact fin z
     · simp only [go_sem, AE, AA, AC, AB, KB_n, KB_x, Nat.reduceBEq, Nat.reduceAdd, Nat.reduceLT, Nat.reduceLeDiff, Nat.reduceEqDiff, reduceIte, Int.reduceEq, reduceCtorEq, g1, g3]
       exact ⟨0, z, by omega, rfl, rfl⟩
 · simp only [go_sem, AE, AA, AC, AB, KB_n, KB_x, Nat.reduceBEq, Nat.reduceAdd, Nat.reduceLT, Nat.reduceLeDiff, Nat.reduceEqDiff, reduceIte, Int.reduceEq, reduceCtorEq]
   exact ⟨0, 1, by omega, rfl, rfl⟩
end Go.Proofs.YtmnbfgfgjmmhfaaGreatDoor

namespace Go.Proofs.YtmnbfgfgjmmhfaaGreatDoor
open Go.Proofs.YtmnbfgfgjmmhfaaGreatDoor.Am
theorem HU {f : Nat} {fn : Fun} {args args' : List AV} {s : St} (hp : prog f = some fn) (hpr : fn.prim = none) (hl : args.length = args'.length) (hw : wkZ fn.cin args = wkZ fn.cin args') : (lim prog).call f args s = (lim prog).call f args' s := by
 rw [Fa, Fa]
 unfold Gg
 simp only [hp, hpr, hl, hw]
theorem Rs {q : St} {id rm : Nat} {L Z : List (List Nat)} {fz : Bool} (hb : q.box? id = some (.row 9 ((L ++ Z).map .s) fz rm)) (p : Nat × Bool) : elems q 1 (.bl id 1 0 L.length p) = some (L.map .s) := by
 have hc : cut ((L ++ Z).map AV.s) 0 (L.length * 1) = some (L.map .s) := by
  unfold cut
  rw [List.drop_zero, Nat.mul_one, List.map_append, List.take_left' (by simp), if_pos (by simp)]
 have hr : rowB q id 0 (L.length * 1) = some (L.map .s) := by
  simp only [rowB, St.cells?, hb, hc]
 simp only [elems, hr, Ij, if_true]
 rw [if_pos (by simp), Kz (by simp)]
theorem Rt (L : List (List Nat)) : AV.refs (.agg (Dr (L.map .s))) = false := by
 rw [Iy]; simp only [AV.refs]; exact ID L
section
variable {s0 q : St} {n : En} {B : List (Nat × Box)}
theorem _root_.Go.Proofs.YtmnbfgfgjmmhfaaGreatDoor.Am.Hp.appB {id : Nat} {L Z ys : List (List Nat)} {y : AV} (H : Hp s0 q n [] ((id, .row 9 ((L ++ Z).map .s) false 0) :: B)) (hy : ∀ q', (∀ p ∈ B, q'.box? p.1 = some p.2) → elems q' 1 y = some (ys.map .s)) (hsz : L.length + ys.length < 2 ^ 38) :
    ∃ a q', orU (appA q 1 9 (.bl id 1 0 L.length (L.length + Z.length, false)) y) q 1 9 (.bl id 1 0 L.length (L.length + Z.length, false)) y = some (a, q') ∧
     ((∃ Z', a = .bl id 1 0 (L ++ ys).length (L.length + Z.length, false) ∧ Hp s0 q' n [] ((id, .row 9 (((L ++ ys) ++ Z').map .s) false 0) :: B)) ∨ ∃ fr, Hp s0 q' n [⟨1, 9, a, (L ++ ys).map .s, fr⟩] B) := by
 have hb := (H.box (i := 0) rfl).1
 simp only at hb
 have hB : ∀ p ∈ B, q.box? p.1 = some p.2 := fun p hp => by
  obtain ⟨i, hi, rfl⟩ := List.mem_iff_getElem.1 hp
  exact (H.box (i := i + 1) (by simp)).1
 have hel := hy q hB
 cases hys : ys with
 | nil =>
   subst hys
   refine ⟨.bl id 1 0 L.length (L.length + Z.length, false), q, ?_, .inl ⟨Z, by rw [List.append_nil], by rw [List.append_nil]; exact H⟩⟩
   have : appA q 1 9 (.bl id 1 0 L.length (L.length + Z.length, false)) y = some (.bl id 1 0 L.length (L.length + Z.length, false), q) := by
    simp only [appA, hel, List.map_nil]
   rw [this]; rfl
 | cons y0 yl =>
   rw [← hys]
   have hpos : 1 ≤ ys.length := by rw [hys]; simp
   by_cases hfit : ys.length ≤ Z.length
   · -- in place
     have hlen : (Dr (ys.map AV.s)).length = ys.length * 1 := by rw [Iy]; simp
     have hov : overR ((L ++ Z).map AV.s) (0 + L.length * 1) (Dr (ys.map AV.s)) 0 = some (((L ++ ys) ++ Z.drop ys.length).map .s) := by
      unfold overR
      rw [Iy, if_pos (by simp; omega)]
      congr 1
      rw [Nat.zero_add, Nat.mul_one, List.map_append, List.take_left' (by simp), List.length_map, List.map_append, List.map_append, List.append_assoc]
      rw [List.drop_append, List.drop_of_length_le (by simp), List.nil_append, List.length_map, Nat.add_sub_cancel_left, List.map_drop]
     have hst : stA q (ys.length * 1) (.p id (0 + L.length * 1)) (.agg (Dr (ys.map .s))) = some (q.setBox id (.row 9 (((L ++ ys) ++ Z.drop ys.length).map .s) false 0)) := by
      have hc : (AV.agg (Dr (ys.map .s))).cells = Dr (ys.map .s) := rfl
      have ho : ones (Dr (ys.map AV.s)) = true := by rw [Iy]; exact Ij ys
      simp only [stA, hb, hc, hlen, ho, hov, and_self, if_true, Am.esc, Rt, Bool.false_eq_true, if_false]
     have happ : appA q 1 9 (.bl id 1 0 L.length (L.length + Z.length, false)) y = some (.bl id 1 0 (L.length + ys.length) (L.length + Z.length, false), q.setBox id (.row 9 (((L ++ ys) ++ Z.drop ys.length).map .s) false 0)) := by
      rw [hys, List.map_cons] at hel
      simp only [appA, hel]
      rw [if_neg (by simp)]
      rw [show (AV.s y0 :: yl.map AV.s) = ys.map .s by rw [hys]; rfl]
      rw [if_pos (by simp; omega), List.length_map, hst]
     refine ⟨_, _, by rw [happ]; rfl, .inl ⟨Z.drop ys.length, by rw [List.length_append], H.setBox (i := 0) rfl _⟩⟩
   · -- a row again
     have hl : (L ++ Z).map AV.s = L.map .s ++ Z.map .s := List.map_append
     have hun : Qd q 1 9 (.bl id 1 0 L.length (L.length + Z.length, false)) = some (.sl 1 (L.map .s) (.tok q.nt 0), (q.setBox id .used).newTok (L.map AV.s).length (some 9)) := by
      simp only [Qd, hb]
      have e1 : ((L ++ Z).map AV.s).take (L.length * 1) = L.map .s := by rw [hl, Nat.mul_one, List.take_left' (by simp)]
      rw [if_pos (by simp), e1, if_pos ⟨trivial, by simp, Ij L⟩, Kz (by simp), List.length_map]
     have happ : appA q 1 9 (.bl id 1 0 L.length (L.length + Z.length, false)) y = none := by
      rw [hys, List.map_cons] at hel
      simp only [appA, hel]
      rw [if_neg (by simp)]
      rw [show (AV.s y0 :: yl.map AV.s) = ys.map .s by rw [hys]; rfl]
      rw [if_neg (by simp; omega)]
     have H2 := (H.setBox (i := 0) rfl .used).newTok 1 9 (L.map .s)
     simp only [List.set_cons_zero] at H2
     have hB2 : ∀ p ∈ B, ((q.setBox id .used).newTok (L.map AV.s).length (some 9)).box? p.1 = some p.2 := fun p hp => by
      obtain ⟨i, hi, rfl⟩ := List.mem_iff_getElem.1 hp
      exact (H2.box (i := i + 1) (by simp)).1
     obtain ⟨a', q', d', H3, _, _⟩ := H2.app 0 rfl (hy _ hB2) (by simp; omega)
     refine ⟨a', q', ?_, .inr ⟨true, ?_⟩⟩
     · rw [happ, Oq]
       simp only [MP, hun]
       exact d'
     · have := H3.dropB
       rw [← List.map_append] at this
       exact this
end
end Go.Proofs.YtmnbfgfgjmmhfaaGreatDoor

namespace Go.Proofs.YtmnbfgfgjmmhfaaGreatDoor
open Go.Proofs.YtmnbfgfgjmmhfaaGreatDoor.Am
section
variable {s0 q : St} {n : En} {R : List RA} {B C p : List (Nat × Box)}
theorem Np : ∀ (p : List (Nat × Box)), Hp s0 q n R (p ++ B) → Hp s0 q n R B
 | [], H => H
 | _ :: p, H => Np p (Hp.dropB H)
theorem _root_.Go.Proofs.YtmnbfgfgjmmhfaaGreatDoor.Am.Hp.dropBs (H : Hp s0 q n R (p ++ B)) : Hp s0 q n R B := Np p H
theorem _root_.Go.Proofs.YtmnbfgfgjmmhfaaGreatDoor.Am.Hp.swapB {x y : Nat × Box} (H : Hp s0 q n R (x :: y :: C)) : Hp s0 q n R (y :: x :: C) := by
 have hC := H.dropB.dropB
 have hx := H.box (i := 0) rfl
 have hy := H.box (i := 1) rfl
 have hap : ∀ {i : Nat} {z : Nat × Box}, C[i]? = some z → (x :: y :: C)[i + 2]? = some z := fun h => by simpa using h
 refine Hp.addB (Hp.addB hC hx.1 hx.2.1 hx.2.2 fun p hp => ?_) hy.1 hy.2.1 hy.2.2 fun p hp => ?_
 · obtain ⟨i, hi, rfl⟩ := List.mem_iff_getElem.1 hp
   exact H.bapart (i := i + 2) (j := 0) (by omega) (hap (List.getElem?_eq_getElem hi)) rfl
 · rcases List.mem_cons.1 hp with rfl | hp
   · exact H.bapart (i := 0) (j := 1) (by omega) rfl rfl
   · obtain ⟨i, hi, rfl⟩ := List.mem_iff_getElem.1 hp
     exact H.bapart (i := i + 2) (j := 1) (by omega) (hap (List.getElem?_eq_getElem hi)) rfl
theorem Tf {v : AV} {L : List (List Nat)} {p : List (Nat × Box)} (h : RowK v L p) (u : St) : Am.pub u v = some (v, u) := by
 rcases h with ⟨rfl, _⟩ | ⟨id, Z, rfl, _⟩ <;> rfl
theorem Ru {v : AV} {L : List (List Nat)} {p : List (Nat × Box)} (h : RowK v L p) {q' : St} (hq : ∀ x ∈ p, q'.box? x.1 = some x.2) : elems q' 1 v = some (L.map .s) := by
 rcases h with ⟨rfl, rfl, _⟩ | ⟨id, Z, rfl, rfl⟩
 · rfl
 · exact Rs (hq (id, .row 9 ((L ++ Z).map .s) false 0) (List.mem_singleton.2 rfl)) _
theorem Rv {M : List (List Nat)} (hM : M.length < 2 ^ 36) {a : AV} (ht : Ds 1 a (M.map .s)) {q : St} (hw : Wf q) : ∃ L, (lim prog).call AZ [a] q = some (tx L, q) ∧ L.Pairwise (fun x y => ltN x y = true) ∧ ∀ x, x ∈ L ↔ x ∈ M := by
 obtain ⟨r, s', h, L, rfl, rfl, h1, h2⟩ := QN M hM q hw
 refine ⟨L, ?_, h1, h2⟩
 rw [← h]
 exact HU Ch rfl rfl (by simp only [AJ, wkZ, ht.wk (Jn _), Am.wk, Jn, Nat.beq_refl, if_true])
theorem app2 {v2 v3 : AV} {L2 L3 : List (List Nat)} {p2 p3 : List (Nat × Box)} (r2 : RowK v2 L2 p2) (r3 : RowK v3 L3 p3) (H : Hp s0 q n [] (p3 ++ (p2 ++ C))) (hsz : L2.length + L3.length < 2 ^ 36) :
    ∃ a4 q4 a5 q5 L, orU (appA q 1 9 v2 v3) q 1 9 v2 v3 = some (a4, q4) ∧ Hp s0 q4 n [] C ∧ Am.pub q4 a4 = some (a5, q5) ∧ Hp s0 q5 n [] C ∧ (lim prog).call AZ [a5] q5 = some (tx L, q5) ∧ L.Pairwise (fun x y => ltN x y = true) ∧ ∀ x, x ∈ L ↔ x ∈ L2 ++ L3 := by
 have hbx : ∀ x ∈ p3, q.box? x.1 = some x.2 := fun p hp => by
  obtain ⟨i, hi, rfl⟩ := List.mem_iff_getElem.1 hp
  exact (H.box (i := i) (by rw [List.getElem?_append_left hi]; exact List.getElem?_eq_getElem hi)).1
 have hrow : ∀ (a4 : AV) (q4 : St) (fr : Bool) (D : List (Nat × Box)), orU (appA q 1 9 v2 v3) q 1 9 v2 v3 = some (a4, q4) → Hp s0 q4 n [⟨1, 9, a4, (L2 ++ L3).map .s, fr⟩] (D ++ C) →
     ∃ a4 q4 a5 q5 L, orU (appA q 1 9 v2 v3) q 1 9 v2 v3 = some (a4, q4) ∧ Hp s0 q4 n [] C ∧ Am.pub q4 a4 = some (a5, q5) ∧ Hp s0 q5 n [] C ∧ (lim prog).call AZ [a5] q5 = some (tx L, q5) ∧ L.Pairwise (fun x y => ltN x y = true) ∧ ∀ x, x ∈ L ↔ x ∈ L2 ++ L3 := by
  intro a4 q4 fr D d4 H4
  obtain ⟨a5, q5, d5, t5, H5, _⟩ := H4.pub 0 rfl
  obtain ⟨L, h1, h2, h3⟩ := Rv (M := L2 ++ L3) (by simp; omega) t5 H5.wf
  exact ⟨a4, q4, a5, q5, L, d4, (H4.dropR).dropBs, d5, (Hp.dropR H5).dropBs, h1, h2, h3⟩
 rcases r2 with ⟨rfl, rfl, rfl⟩ | ⟨id, Z, rfl, rfl⟩
 · obtain ⟨a4, q4, d4, H4, _, _⟩ := H.appN (es := 1) 9 (a := .nsl) (xs := []) Hh.nil (Ru r3 hbx) (by simp; omega)
   refine hrow a4 q4 true p3 (by rw [d4]; rfl) ?_
   exact H4
 · have Hs : Hp s0 q n [] ((id, .row 9 ((L2 ++ Z).map .s) false 0) :: (p3 ++ C)) := by
    rcases r3 with ⟨_, _, rfl⟩ | ⟨id3, Z3, _, rfl⟩
    · exact H
    · exact H.swapB
   obtain ⟨a4, q4, d4, h4⟩ := Hs.appB (ys := L3) (y := v3) (fun q' hq => Ru r3 fun x hx => hq x (List.mem_append_left _ hx)) (by omega)
   rcases h4 with ⟨Z', rfl, H4⟩ | ⟨fr, H4⟩
   · have hb := (H4.box (i := 0) rfl)
     obtain ⟨r, s', h, L, rfl, hs', h1, h2⟩ := QO (L2 ++ L3) (by simp; omega) Z' id (L2.length + Z.length) false q4 H4.wf hb.2.2 hb.1
     rw [hs'] at h
     exact ⟨_, q4, _, q4, L, d4, H4.dropB.dropBs, rfl, H4.dropB.dropBs, h, h1, h2⟩
   · exact hrow a4 q4 fr p3 d4 H4
theorem PZ {f : Nat} {x0 xa xb : AV} {L0 La Lb : List (List Nat)} (H : Hp s0 q n [] B) (c0 : ∀ u, Wf u → ∃ v s', (lim prog).call f [x0] u = some (v, s') ∧ Ht u s' v L0) (ca : ∀ u, Wf u → ∃ v s', (lim prog).call f [xa] u = some (v, s') ∧ Ht u s' v La)
    (cb : ∀ u, Wf u → ∃ v s', (lim prog).call f [xb] u = some (v, s') ∧ Ht u s' v Lb) (hl0 : L0.length < 2 ^ 35) (hla : La.length < 2 ^ 34) (hlb : Lb.length < 2 ^ 34) (hasc : L0.Pairwise fun x y => ltN x y = true) (hmem : ∀ x, x ∈ L0 ↔ x ∈ La ++ Lb) :
    ∃ v1 q1 v2 q2 v3 q3 a4 q4 a5 q5 r, (lim prog).call f [x0] q = some (v1, q1) ∧ (lim prog).call f [xa] q1 = some (v2, q2) ∧ (lim prog).call f [xb] q2 = some (v3, q3) ∧ orU (appA q3 1 9 v2 v3) q3 1 9 v2 v3 = some (a4, q4) ∧ Am.pub q4 a4 = some (a5, q5) ∧
     (lim prog).call AZ [a5] q5 = some (r, q5) ∧ (∀ u, Am.pub u v1 = some (v1, u)) ∧ (∀ u, Am.pub u r = some (r, u)) ∧ (lim prog).call Aw [v1, r] q5 = some (.b true, q5) ∧
     Hp s0 q1 n [] B ∧ Hp s0 q2 n [] B ∧ Hp s0 q3 n [] B ∧ Hp s0 q4 n [] B ∧ Hp s0 q5 n [] B := by
 obtain ⟨v1, q1, d1, k1⟩ := c0 q H.wf
 obtain ⟨p1, r1, H1, _⟩ := H.keptT k1
 obtain ⟨v2, q2, d2, k2⟩ := ca q1 H1.wf
 obtain ⟨p2, r2, H2, _⟩ := H1.keptT k2
 obtain ⟨v3, q3, d3, k3⟩ := cb q2 H2.wf
 obtain ⟨p3, r3, H3, _⟩ := H2.keptT k3
 obtain ⟨a4, q4, a5, q5, L, d4, H4, d5, H5, hs, h1, h2⟩ := app2 r2 r3 H3 (by omega)
 have heq : L0 = L := Ls hasc h1 fun x => by rw [hmem x, h2 x]
 refine ⟨v1, q1, v2, q2, v3, q3, a4, q4, a5, q5, tx L, d1, d2, d3, d4, d5, hs, Tf r1, fun _ => rfl, ?_, H1.dropBs, (H2.dropBs).dropBs, ((H3.dropBs).dropBs).dropBs, H4.dropBs, H5.dropBs⟩
 subst heq
 rcases r1 with ⟨rfl, rfl, _⟩ | ⟨id, Z, rfl, rfl⟩
 · have := To [] [] (by simp) (by simp) q5 H5.wf
   rw [decide_eq_true rfl] at this
   rw [← this]
   exact HU Cx rfl rfl (by simp [AO, wkZ, Am.wk, wkM, tx])
 · have hb := H5.box (i := 0) rfl
   have := Tp L0 L0 (by omega) (by omega) Z id (L0.length + Z.length) false q5 H5.wf hb.2.2 hb.1
   rw [decide_eq_true rfl] at this
   exact this
end
end Go.Proofs.YtmnbfgfgjmmhfaaGreatDoor
