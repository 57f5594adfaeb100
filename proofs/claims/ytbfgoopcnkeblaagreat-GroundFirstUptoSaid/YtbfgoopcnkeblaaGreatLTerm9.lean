/-
  The abstract machine's functions are the dump's. By program.
-/
import Derived.Test.YtbfgoopcnkeblaaGreatRows
import Derived.Test.YtbfgoopcnkeblaaGreatAmKeep
import Derived.Test.YtbfgoopcnkeblaaGreatFns
import Derived.Test.YtbfgoopcnkeblaaGreatPrims
import Derived.KernelRfl
import Derived.Test.YtbfgoopcnkeblaaGreatAmRg
import Derived.Laws.RangeAny
set_option linter.all false
set_option linter.unusedVariables false
set_option linter.unusedSimpArgs false
set_option linter.unusedSectionVars false
set_option maxRecDepth 100000
namespace Go.Proofs.YtbfgoopcnkeblaaGreat
open Go.Proofs.YtbfgoopcnkeblaaGreat.Am Go.Proofs
def gt : Nat → Option (List AV)
 | _ => none
theorem FO : compF Tryz.prog gt false false [] Tryz.f5 = some AO := by kernel_rfl
theorem HS : compF Tryz.prog gt false false [] Tryz.f6 = some EU := by kernel_rfl
theorem Hy : compF Tryz.prog gt true false [7] Tryz.f7 = some FF := by kernel_rfl
theorem Hd : compF Tryz.prog gt false false [] Tryz.f8 = some Eo := by kernel_rfl
theorem FS : compF Tryz.prog gt false false [] Tryz.f9 = some BX := by kernel_rfl
theorem Kr : compF Tryz.prog gt false false [] Tryz.f10 = some Dp := by kernel_rfl
theorem Mr : compF Tryz.prog gt false false [] Tryz.f11 = some Cd := by kernel_rfl
theorem OV : compF Tryz.prog gt false false [] Tryz.f12 = some Cw := by kernel_rfl
theorem Ep : compF Tryz.prog gt false false [] Tryz.f14 = some BK := by kernel_rfl
theorem Gw : compF Tryz.prog gt false false [] Tryz.f15 = some Ab := by kernel_rfl
theorem He : compF Tryz.prog gt false false [1000005000, 1000007000, 1000009000] Tryz.f19 = some Bb := by kernel_rfl
theorem Jc : compF Tryz.prog gt false false [] Tryz.f20 = some DK := by kernel_rfl
theorem NT : compF Tryz.prog gt false false [] Tryz.f21 = some Gm := by kernel_rfl
theorem QB : compF Tryz.prog gt false false [] Tryz.f22 = some Ci := by kernel_rfl
theorem MV : compF Tryz.prog gt false false [] Tryz.f23 = some Cj := by kernel_rfl
theorem FU : compF Tryz.prog gt false false [] Tryz.f24 = some AZ := by kernel_rfl
theorem Ms : compF Tryz.prog gt false false [] Tryz.f25 = some Ce := by kernel_rfl
theorem Ks : compF Tryz.prog gt false false [] Tryz.f26 = some A1 := by kernel_rfl
theorem OW : compF Tryz.prog gt false false [2000000001, 2000000005] Tryz.f27 = some D2 := by kernel_rfl
theorem Jd : compF Tryz.prog gt false false [1000006000, 1000008000] Tryz.f34 = some Cc := by kernel_rfl
theorem QC : compF Tryz.prog gt false false [1000014003] Tryz.f35 = some Ef := by kernel_rfl
theorem NU : compF Tryz.prog gt false false [] Tryz.f36 = some Bn := by kernel_rfl
theorem QD : compF Tryz.prog gt false false [1000001000] Tryz.f37 = some Fz := by kernel_rfl
theorem Je : compF Tryz.prog gt false false [] Tryz.f38 = some DL := by kernel_rfl
theorem Jf : compF Tryz.prog gt false false [] Tryz.f39 = some DM := by kernel_rfl
theorem GL : compF Tryz.prog gt false false [] Tryz.f40 = some Bt := by kernel_rfl
theorem Ic : compF Tryz.prog gt false false [] Tryz.f41 = some Cf := by kernel_rfl
theorem Cl : compF Tryz.prog gt false false [] Tryz.f42 = some Aw := by kernel_rfl
theorem Dt : compF Tryz.prog gt false false [] Tryz.f43 = some Ac := by kernel_rfl
theorem LA : compF Tryz.prog gt false false [] Tryz.f44 = some Cs := by kernel_rfl
theorem F8 : compF Tryz.prog gt false false [] Tryz.f45 = some Ck := by kernel_rfl
theorem MW : compF Tryz.prog gt false false [] Tryz.f46 = some DN := by kernel_rfl
theorem Dg : compF Tryz.prog gt true false [] Tryz.f47 = some AP := by kernel_rfl
theorem Kt : compF Tryz.prog gt false false [] Tryz.f53 = some DI := by kernel_rfl
theorem Hz : compF Tryz.prog gt false false [] Tryz.f54 = some Bu := by kernel_rfl
theorem QE : compF Tryz.prog gt false false [] Tryz.f55 = some FG := by kernel_rfl
theorem QF : compF Tryz.prog gt false false [] Tryz.f56 = some Cx := by kernel_rfl
theorem DX : compF Tryz.prog gt false false [] Tryz.f57 = some Al := by kernel_rfl
theorem MX : compF Tryz.prog gt false false [] Tryz.f58 = some F0 := by kernel_rfl
theorem NV : compF Tryz.prog gt false false [] Tryz.f59 = some E5 := by kernel_rfl
theorem QG : compF Tryz.prog gt false false [] Tryz.f60 = some F1 := by kernel_rfl
theorem Ku : compF Tryz.prog gt false false [] Tryz.f61 = some GJ := by kernel_rfl
theorem NW : compF Tryz.prog gt false false [] Tryz.f62 = some Ct := by kernel_rfl
theorem DY : compF Tryz.prog gt false false [] Tryz.f63 = some AW := by kernel_rfl
theorem CW : compF Tryz.prog gt false false [] Tryz.f65 = some Aq := by kernel_rfl
theorem Gx : compF Tryz.prog gt false false [] Tryz.f66 = some DE := by kernel_rfl
theorem FJ : compF Tryz.prog gt false false [] Tryz.f67 = some CJ := by kernel_rfl
theorem EE : compF Tryz.prog gt false false [] Tryz.f68 = some Ah := by kernel_rfl
theorem C6 : compF Tryz.prog gt false false [] Tryz.f69 = some BA := by kernel_rfl
theorem FK : compF Tryz.prog gt false false [] Tryz.f70 = some CK := by kernel_rfl
theorem MY : compF Tryz.prog gt false false [] Tryz.f75 = some Bh := by kernel_rfl
theorem NX : compF Tryz.prog gt false false [] Tryz.f76 = some E6 := by kernel_rfl
theorem Jg : compF Tryz.prog gt false false [] Tryz.f77 = some DP := by kernel_rfl
theorem Cm : compF Tryz.prog gt false false [] Tryz.f78 = some AY := by kernel_rfl
theorem Gy : compF Tryz.prog gt false false [] Tryz.f79 = some CD := by kernel_rfl
theorem Gz : compF Tryz.prog gt false false [] Tryz.f80 = some CH := by kernel_rfl
theorem D6 : compF Tryz.prog gt false false [] Tryz.f81 = some A4 := by kernel_rfl
theorem Dh : compF Tryz.prog gt false false [] Tryz.f82 = some BN := by kernel_rfl
theorem BJ : compF Tryz.prog gt false false [] Tryz.f83 = some AJ := by kernel_rfl
theorem DG : compF Tryz.prog gt false false [] Tryz.f84 = some Aj := by kernel_rfl
theorem CM : compF Tryz.prog gt false false [] Tryz.f87 = some A6 := by kernel_rfl
theorem GM : compF Tryz.prog gt false false [] Tryz.f88 = some Cy := by kernel_rfl
theorem GN : compF Tryz.prog gt false false [] Tryz.f90 = some BZ := by kernel_rfl
theorem MZ : compF Tryz.prog gt false false [] Tryz.f91 = some EN := by kernel_rfl
theorem Kv : compF Tryz.prog gt false false [] Tryz.f92 = some Dq := by kernel_rfl
theorem Ma : compF Tryz.prog gt false false [] Tryz.f93 = some EO := by kernel_rfl
theorem F9 : compF Tryz.prog gt false false [1000002003] Tryz.f94 = some BQ := by kernel_rfl
theorem Ei : compF Tryz.prog gt false false [] Tryz.f95 = some BG := by kernel_rfl
theorem IA : compF Tryz.prog gt false false [] Tryz.f96 = some CL := by kernel_rfl
theorem EF : compF Tryz.prog gt false false [] Tryz.f97 = some A7 := by kernel_rfl
theorem C7 : compF Tryz.prog gt false false [] Tryz.f98 = some Ag := by kernel_rfl
theorem GA : compF Tryz.prog gt false false [] Tryz.f102 = some A8 := by kernel_rfl
theorem Du : compF Tryz.prog gt false false [] Tryz.f103 = some BR := by kernel_rfl
theorem Er : compF Tryz.prog gt false false [] Tryz.f104 = some BL := by kernel_rfl
theorem Dv : compF Tryz.prog gt false false [] Tryz.f105 = some BS := by kernel_rfl
theorem Jh : compF Tryz.prog gt false false [5000000006] Tryz.f106 = some BV := by kernel_rfl
theorem FV : compF Tryz.prog gt true false [] Tryz.f107 = some CU := by kernel_rfl
theorem EG : compF Tryz.prog gt false false [] Tryz.f109 = some A9 := by kernel_rfl
theorem Es : compF Tryz.prog gt false false [] Tryz.f110 = some BM := by kernel_rfl
theorem EW : compF Tryz.prog gt false false [] Tryz.f121 = some Bo := by kernel_rfl
theorem D7 : compF Tryz.prog gt false false [] Tryz.f122 = some B2 := by kernel_rfl
theorem D8 : compF Tryz.prog gt true true [] Tryz.f124 = some Ai := by kernel_rfl
theorem ZN : tabC.All (T4 Tryz.prog gt) :=
 ⟨.inl ⟨rfl, Tryz.f66, [], false, Tryz.func66, Gx⟩, ⟨.inl ⟨rfl, Tryz.f40, [], false, Tryz.func40, GL⟩, ⟨.inl ⟨rfl, Tryz.f23, [], false, Tryz.func23, MV⟩, ⟨.inl ⟨rfl, Tryz.f10, [], false, Tryz.func10, Kr⟩, ⟨.inl ⟨rfl, Tryz.f8, [], false, Tryz.func8, Hd⟩, ⟨.inl ⟨rfl, Tryz.f7, [7], false, Tryz.func7, Hy⟩, ⟨.inl ⟨rfl, Tryz.f6, [], false, Tryz.func6, HS⟩, trivial, trivial⟩, trivial⟩, ⟨.inl ⟨rfl, Tryz.f9, [], false, Tryz.func9, FS⟩, trivial, trivial⟩⟩, ⟨.inl ⟨rfl, Tryz.f21, [], false, Tryz.func21, NT⟩, ⟨.inl ⟨rfl, Tryz.f20, [], false, Tryz.func20, Jc⟩, ⟨.inl ⟨rfl, Tryz.f14, [], false, Tryz.func14, Ep⟩, trivial, trivial⟩, trivial⟩, ⟨.inl ⟨rfl, Tryz.f22, [], false, Tryz.func22, QB⟩, trivial, trivial⟩⟩⟩, ⟨.inl ⟨rfl, Tryz.f36, [], false, Tryz.func36, NU⟩, ⟨.inl ⟨rfl, Tryz.f34, [1000006000, 1000008000], false, Tryz.func34, Jd⟩, ⟨.inl ⟨rfl, Tryz.f26, [], false, Tryz.func26, Ks⟩, ⟨.inl ⟨rfl, Tryz.f24, [], false, Tryz.func24, FU⟩, trivial, trivial⟩, trivial⟩, ⟨.inl ⟨rfl, Tryz.f35, [1000014003], false, Tryz.func35, QC⟩, trivial, trivial⟩⟩, ⟨.inl ⟨rfl, Tryz.f38, [], false, Tryz.func38, Je⟩, ⟨.inl ⟨rfl, Tryz.f37, [1000001000], false, Tryz.func37, QD⟩, trivial, trivial⟩, ⟨.inl ⟨rfl, Tryz.f39, [], false, Tryz.func39, Jf⟩, trivial, trivial⟩⟩⟩⟩, ⟨.inl ⟨rfl, Tryz.f57, [], false, Tryz.func57, DX⟩, ⟨.inl ⟨rfl, Tryz.f47, [], false, Tryz.func47, Dg⟩, ⟨.inl ⟨rfl, Tryz.f45, [], false, Tryz.func45, F8⟩, ⟨.inl ⟨rfl, Tryz.f42, [], false, Tryz.func42, Cl⟩, ⟨.inl ⟨rfl, Tryz.f41, [], false, Tryz.func41, Ic⟩, trivial, trivial⟩, trivial⟩, ⟨.inl ⟨rfl, Tryz.f46, [], false, Tryz.func46, MW⟩, trivial, trivial⟩⟩, ⟨.inl ⟨rfl, Tryz.f55, [], false, Tryz.func55, QE⟩, ⟨.inl ⟨rfl, Tryz.f54, [], false, Tryz.func54, Hz⟩, ⟨.inl ⟨rfl, Tryz.f53, [], false, Tryz.func53, Kt⟩, trivial, trivial⟩, trivial⟩, ⟨.inl ⟨rfl, Tryz.f56, [], false, Tryz.func56, QF⟩, trivial, trivial⟩⟩⟩, ⟨.inl ⟨rfl, Tryz.f62, [], false, Tryz.func62, NW⟩, ⟨.inl ⟨rfl, Tryz.f60, [], false, Tryz.func60, QG⟩, ⟨.inl ⟨rfl, Tryz.f59, [], false, Tryz.func59, NV⟩, ⟨.inl ⟨rfl, Tryz.f58, [], false, Tryz.func58, MX⟩, trivial, trivial⟩, trivial⟩, ⟨.inl ⟨rfl, Tryz.f61, [], false, Tryz.func61, Ku⟩, trivial, trivial⟩⟩, ⟨.inr ⟨_, rfl, Dw⟩, ⟨.inl ⟨rfl, Tryz.f63, [], false, Tryz.func63, DY⟩, trivial, trivial⟩, ⟨.inl ⟨rfl, Tryz.f65, [], false, Tryz.func65, CW⟩, trivial, trivial⟩⟩⟩⟩⟩, ⟨.inl ⟨rfl, Tryz.f93, [], false, Tryz.func93, Ma⟩, ⟨.inl ⟨rfl, Tryz.f81, [], false, Tryz.func81, D6⟩, ⟨.inl ⟨rfl, Tryz.f76, [], false, Tryz.func76, NX⟩, ⟨.inl ⟨rfl, Tryz.f70, [], false, Tryz.func70, FK⟩, ⟨.inl ⟨rfl, Tryz.f69, [], false, Tryz.func69, C6⟩, ⟨.inl ⟨rfl, Tryz.f67, [], false, Tryz.func67, FJ⟩, trivial, trivial⟩, trivial⟩, ⟨.inl ⟨rfl, Tryz.f75, [], false, Tryz.func75, MY⟩, trivial, trivial⟩⟩, ⟨.inl ⟨rfl, Tryz.f79, [], false, Tryz.func79, Gy⟩, ⟨.inl ⟨rfl, Tryz.f78, [], false, Tryz.func78, Cm⟩, ⟨.inl ⟨rfl, Tryz.f77, [], false, Tryz.func77, Jg⟩, trivial, trivial⟩, trivial⟩, ⟨.inl ⟨rfl, Tryz.f80, [], false, Tryz.func80, Gz⟩, trivial, trivial⟩⟩⟩, ⟨.inl ⟨rfl, Tryz.f88, [], false, Tryz.func88, GM⟩, ⟨.inl ⟨rfl, Tryz.f84, [], false, Tryz.func84, DG⟩, ⟨.inl ⟨rfl, Tryz.f83, [], false, Tryz.func83, BJ⟩, ⟨.inl ⟨rfl, Tryz.f82, [], false, Tryz.func82, Dh⟩, trivial, trivial⟩, trivial⟩, ⟨.inl ⟨rfl, Tryz.f87, [], false, Tryz.func87, CM⟩, trivial, trivial⟩⟩, ⟨.inl ⟨rfl, Tryz.f91, [], false, Tryz.func91, MZ⟩, ⟨.inl ⟨rfl, Tryz.f90, [], false, Tryz.func90, GN⟩, trivial, trivial⟩, ⟨.inl ⟨rfl, Tryz.f92, [], false, Tryz.func92, Kv⟩, trivial, trivial⟩⟩⟩⟩, ⟨.inl ⟨rfl, Tryz.f105, [], false, Tryz.func105, Dv⟩, ⟨.inl ⟨rfl, Tryz.f98, [], false, Tryz.func98, C7⟩, ⟨.inl ⟨rfl, Tryz.f96, [], false, Tryz.func96, IA⟩, ⟨.inl ⟨rfl, Tryz.f95, [], false, Tryz.func95, Ei⟩, ⟨.inl ⟨rfl, Tryz.f94, [1000002003], false, Tryz.func94, F9⟩, trivial, trivial⟩, trivial⟩, ⟨.inl ⟨rfl, Tryz.f97, [], false, Tryz.func97, EF⟩, trivial, trivial⟩⟩, ⟨.inl ⟨rfl, Tryz.f103, [], false, Tryz.func103, Du⟩, ⟨.inl ⟨rfl, Tryz.f102, [], false, Tryz.func102, GA⟩, trivial, trivial⟩, ⟨.inl ⟨rfl, Tryz.f104, [], false, Tryz.func104, Er⟩, trivial, trivial⟩⟩⟩, ⟨.inl ⟨rfl, Tryz.f110, [], false, Tryz.func110, Es⟩, ⟨.inr ⟨_, rfl, D9⟩, ⟨.inl ⟨rfl, Tryz.f107, [], false, Tryz.func107, FV⟩, ⟨.inl ⟨rfl, Tryz.f106, [5000000006], false, Tryz.func106, Jh⟩, trivial, trivial⟩, trivial⟩, ⟨.inl ⟨rfl, Tryz.f109, [], false, Tryz.func109, EG⟩, trivial, trivial⟩⟩, ⟨.inl ⟨rfl, Tryz.f122, [], false, Tryz.func122, D7⟩, ⟨.inl ⟨rfl, Tryz.f121, [], false, Tryz.func121, EW⟩, trivial, trivial⟩, ⟨.inl ⟨rfl, Tryz.f124, [], true, Tryz.func124, D8⟩, trivial, trivial⟩⟩⟩⟩⟩⟩
theorem ZO : ∀ (f : Nat) (fn : Fun), progC f = some fn → T4 Tryz.prog gt f fn := fun f fn h => PT.all_get ZN h
end Go.Proofs.YtbfgoopcnkeblaaGreat

namespace Go.Proofs.YtbfgoopcnkeblaaGreat
def inR (m : Nat) (x : Int) : Bool := decide (1 ≤ x) && decide (x ≤ m)
theorem NC (f : Nat → Nat) : ∀ m, (∀ j, j < m → f j = 1) → ((List.range m).map f).sum = m
 | 0, _ => rfl
 | m + 1, h => by
   rw [List.range_succ, List.map_append, List.sum_append, NC f m (fun j hj => h j (by omega))]
   simp [h m (by omega)]
theorem Y0 (m : Nat) (x : Int) : ((List.range m).map fun j : Nat => if x = (j : Int) + 1 then 1 else 0).sum = if inR m x then 1 else 0 := by
 induction m with
 | zero =>
   have : inR 0 x = false := by simp [inR]; omega
   simp [this]
 | succ m ih =>
   rw [List.range_succ, List.map_append, List.sum_append, ih]
   simp only [List.map_cons, List.map_nil, List.sum_cons, List.sum_nil, inR]
   by_cases h1 : x = (m : Int) + 1
   · have a1 : ¬ (1 ≤ x ∧ x ≤ (m : Int)) := by omega
     have a2 : 1 ≤ x ∧ x ≤ ((m + 1 : Nat) : Int) := by omega
     simp only [← Bool.decide_and, decide_eq_true_eq]
     rw [if_pos h1, if_neg a1, if_pos a2]; rfl
   · simp only [← Bool.decide_and, decide_eq_true_eq]
     rw [if_neg h1]
     by_cases h2 : 1 ≤ x ∧ x ≤ (m : Int)
     · have a2 : 1 ≤ x ∧ x ≤ ((m + 1 : Nat) : Int) := by omega
       rw [if_pos h2, if_pos a2]; rfl
     · have a2 : ¬ (1 ≤ x ∧ x ≤ ((m + 1 : Nat) : Int)) := by omega
       rw [if_neg h2, if_neg a2]; rfl
theorem Uo (f g : Nat → Nat) : ∀ l : List Nat, (l.map fun j => f j + g j).sum = (l.map f).sum + (l.map g).sum
 | [] => rfl
 | a :: l => by simp only [List.map_cons, List.sum_cons, Uo f g l]; omega
theorem Pg (m : Nat) : ∀ F : List Int, ((List.range m).map fun j : Nat => F.count ((j : Int) + 1)).sum = F.countP (inR m)
 | [] => by
   simp only [List.count_nil, List.countP_nil]
   induction m with
   | zero => rfl
   | succ m ih => rw [List.range_succ, List.map_append, List.sum_append, ih]; rfl
 | x :: F => by
   have h : (fun j : Nat => (x :: F).count ((j : Int) + 1)) = fun j : Nat => F.count ((j : Int) + 1) + (if x = (j : Int) + 1 then 1 else 0) := by
    funext j
    rw [List.count_cons]
    simp only [beq_iff_eq]
   rw [h, Uo, Pg m F, Y0, List.countP_cons]
theorem MI {m : Nat} {F : List Int} (h : ∀ j, 1 ≤ j → j ≤ m → F.count (j : Int) = 1) : F.countP (inR m) = m := by
 rw [← Pg]
 refine NC _ m fun j hj => ?_
 have := h (j + 1) (by omega) (by omega)
 simpa using this
theorem Qm {m : Nat} {F : List Int} (h : ∀ j, 1 ≤ j → j ≤ m → F.count (j : Int) = 1) (hr : ∀ x ∈ F, 1 ≤ x ∧ x ≤ (m : Int)) : F.length = m := by
 rw [← MI h]
 exact (List.countP_eq_length.2 fun x hx => by simp [inR, hr x hx]).symm
theorem SX {m : Nat} {F : List Int} (h : ∀ j, 1 ≤ j → j ≤ m → F.count (j : Int) = 1) (hl : F.length = m) : ∀ x ∈ F, 1 ≤ x ∧ x ≤ (m : Int) := by
 have h1 := MI h
 rw [← hl] at h1
 intro x hx
 have h2 : F.countP (inR m) = F.length := by rw [hl] at h1 ⊢; exact h1
 have := List.countP_eq_length.1 h2 x hx
 simpa [inR] using this
structure FT where
 known : Bool
 kind : Nat
 names : List (List Nat)
 kids : List Int
 rest : Int
 beside : Int
def flatK (l : List FT) : List Int := (l.map FT.kids).flatten
def cntK (l : List FT) (j : Int) : Nat := (flatK l).count j
def Hv (n : Nat) : Nat → List FT → Bool
 | _, [] => true
 | i, f :: l => (f.kids.all fun k => decide ((i : Int) < k) && decide (k < (n : Int))) && Hv n (i + 1) l
def Ph (l : List FT) : Bool := (List.range (l.length - 1)).all fun j => decide (cntK l ((j : Int) + 1) = 1)
theorem Gq {n : Nat} : ∀ {l : List FT} {i : Nat}, Hv n i l = true ↔ ∀ (a : Nat) (f : FT), l[a]? = some f → ∀ k ∈ f.kids, ((i + a : Nat) : Int) < k ∧ k < (n : Int)
 | [], i => by simp [Hv]
 | f :: l, i => by
   simp only [Hv, Bool.and_eq_true, List.all_eq_true, decide_eq_true_eq, Gq (l := l)]
   constructor
   · rintro ⟨h1, h2⟩ a g hg k hk
     cases a with
     | zero => simp only [List.getElem?_cons_zero, Option.some.injEq] at hg; subst hg; exact h1 k hk
     | succ a =>
       have := h2 a g (by simpa using hg) k hk
       exact ⟨by omega, this.2⟩
   · intro h
     refine ⟨fun k hk => h 0 f rfl k hk, fun a g hg k hk => ?_⟩
     have := h (a + 1) g (by simpa using hg) k hk
     exact ⟨by omega, this.2⟩
theorem Ri {l : List FT} : Ph l = true ↔ ∀ j, 1 ≤ j → j ≤ l.length - 1 → cntK l (j : Int) = 1 := by
 simp only [Ph, List.all_eq_true, List.mem_range, decide_eq_true_eq]
 constructor
 · intro h j h1 h2
   have := h (j - 1) (by omega)
   rw [show (((j - 1 : Nat) : Int) + 1) = (j : Int) by omega] at this
   exact this
 · intro h j hj
   have := h (j + 1) (by omega) (by omega)
   simpa using this
def HU (l : List FT) (j : Int) : Option Nat := if cntK l j = 1 then l.findIdx? fun f => f.kids.contains j else none
theorem KJ {l : List FT} {j : Int} (h : cntK l j = 1) : ∃ i f, HU l j = some i ∧ l[i]? = some f ∧ j ∈ f.kids := by
 have hm : j ∈ flatK l := by
  rw [← List.count_pos_iff]
  unfold cntK at h
  omega
 unfold flatK at hm
 rw [List.mem_flatten] at hm
 obtain ⟨ks, hks, hj⟩ := hm
 obtain ⟨f, hf, rfl⟩ := List.mem_map.1 hks
 unfold HU
 rw [if_pos h]
 cases hi : l.findIdx? fun f => f.kids.contains j with
 | none =>
   rw [List.findIdx?_eq_none_iff] at hi
   have := hi f hf
   simp [hj] at this
 | some i =>
   rw [List.findIdx?_eq_some_iff_getElem] at hi
   obtain ⟨h1, h2, _⟩ := hi
   exact ⟨i, l[i], rfl, List.getElem?_eq_getElem h1, by simpa using h2⟩
theorem Rj {l : List FT} {i : Nat} {f : FT} (h : l[i]? = some f) {k : Int} (hk : k ∈ f.kids) : k ∈ flatK l := by
 unfold flatK
 rw [List.mem_flatten]
 exact ⟨f.kids, List.mem_map.2 ⟨f, List.mem_of_getElem? h, rfl⟩, hk⟩
theorem Uq {l : List FT} {i i' : Nat} {f f' : FT} (hii : i ≠ i') (h : l[i]? = some f) (h' : l[i']? = some f') {k : Int} (hk : k ∈ f.kids) (hk' : k ∈ f'.kids) : 2 ≤ cntK l k := by
 have key : ∀ {l : List FT} {i i' : Nat} {f f' : FT}, i < i' → l[i]? = some f → l[i']? = some f' → k ∈ f.kids → k ∈ f'.kids → 2 ≤ cntK l k := by
  intro l
  induction l with
  | nil => intro i i' f f' _ h; simp at h
  | cons a l ih =>
    intro i i' f f' hlt h h' hk hk'
    have hc : cntK (a :: l) k = a.kids.count k + cntK l k := by simp [cntK, flatK, List.count_append]
    cases i' with
    | zero => omega
    | succ i' =>
      cases i with
      | zero =>
        simp only [List.getElem?_cons_zero, Option.some.injEq] at h
        subst h
        have h1 := List.count_pos_iff.2 hk
        have h2 : 0 < cntK l k := List.count_pos_iff.2 (Rj (by simpa using h') hk')
        omega
      | succ i =>
        have := ih (i := i) (i' := i') (by omega) (by simpa using h) (by simpa using h') hk hk'
        omega
 rcases Nat.lt_or_ge i i' with hlt | hge
 · exact key hlt h h' hk hk'
 · exact key (by omega) h' h hk' hk
theorem Rk {l : List FT} {j : Int} (h : cntK l j = 1) {i : Nat} {f : FT} (hf : l[i]? = some f) (hj : j ∈ f.kids) : HU l j = some i := by
 obtain ⟨i', f', h1, h2, h3⟩ := KJ h
 by_cases hii : i = i'
 · rw [h1, hii]
 · have := Uq hii hf h2 hj h3
   omega
def upB (l : List FT) : Bool := (List.range (l.length - 1)).all fun j => match HU l ((j : Int) + 1) with
 | some n => decide (n < j + 1)
 | none => false
theorem up_iff {l : List FT} : upB l = true ↔ ∀ j, 1 ≤ j → j ≤ l.length - 1 → ∃ n, HU l (j : Int) = some n ∧ n < j := by
 simp only [upB, List.all_eq_true, List.mem_range]
 constructor
 · intro h j h1 h2
   have := h (j - 1) (by omega)
   rw [show (((j - 1 : Nat) : Int) + 1) = (j : Int) by omega] at this
   cases ha : HU l (j : Int) with
   | none => rw [ha] at this; cases this
   | some n => rw [ha] at this; exact ⟨n, rfl, by have := of_decide_eq_true this; omega⟩
 · intro h j hj
   obtain ⟨n, h1, h2⟩ := h (j + 1) (by omega) (by omega)
   rw [show ((j : Int) + 1) = ((j + 1 : Nat) : Int) by omega, h1]
   simp only [decide_eq_true_eq]
   omega
theorem Ur (l : List FT) (hl : l ≠ []) : (Hv l.length 0 l && Ph l) = (decide ((flatK l).length = l.length - 1) && upB l) := by
 have hpos := List.length_pos_iff.2 hl
 rw [Bool.eq_iff_iff]
 simp only [Bool.and_eq_true, decide_eq_true_eq, Gq, Ri, up_iff]
 constructor
 · rintro ⟨hb, ho⟩
   have hr : ∀ x ∈ flatK l, 1 ≤ x ∧ x ≤ ((l.length - 1 : Nat) : Int) := by
    intro x hx
    unfold flatK at hx
    rw [List.mem_flatten] at hx
    obtain ⟨ks, hks, hj⟩ := hx
    obtain ⟨f, hf, rfl⟩ := List.mem_map.1 hks
    obtain ⟨i, hi, he⟩ := List.mem_iff_getElem.1 hf
    have := hb i f (by rw [List.getElem?_eq_getElem hi, he]) x hj
    omega
   refine ⟨Qm ho hr, fun j h1 h2 => ?_⟩
   obtain ⟨i, f, k1, k2, k3⟩ := KJ (ho j h1 h2)
   have := hb i f k2 _ k3
   exact ⟨i, k1, by omega⟩
 · rintro ⟨ht, hu⟩
   have ho : ∀ j, 1 ≤ j → j ≤ l.length - 1 → cntK l (j : Int) = 1 := by
    intro j h1 h2
    obtain ⟨n, k1, _⟩ := hu j h1 h2
    unfold HU at k1
    split at k1
    · assumption
    · cases k1
   refine ⟨fun a f hf k hk => ?_, ho⟩
   have hr := SX ho ht k (Rj hf hk)
   obtain ⟨j, rfl⟩ : ∃ j : Nat, k = (j : Int) := ⟨k.toNat, by omega⟩
   have h1 : 1 ≤ j := by omega
   have h2 : j ≤ l.length - 1 := by omega
   obtain ⟨n, k1, k2⟩ := hu j h1 h2
   have := Rk (ho j h1 h2) hf hk
   rw [k1] at this
   cases this
   omega

open Go.Proofs.YtbfgoopcnkeblaaGreat.Am
abbrev tx (L : List (List Nat)) : AV := .ws false 1 (L.map .s)
theorem AK (k : IntKind) (i : Nat) : Cg (.i k (i : Int)) = some i := by simp [Cg]
theorem Xf {L : List (List Nat)} {i : Nat} (h : i < L.length) : (L.map AV.s)[i]? = some (.s L[i]) := by simp [h]
theorem DW (s : St) (v : AV) : ldA s false 1 (.ep [v] 0 .shut) = some v := rfl
theorem Bi (l : List Nat) : (AV.s l).cells = [.s l] := rfl
theorem Cz {i : Nat} (h : i < 2 ^ 63) : IntKind.i64.wrap (i : Int) = i := by
 have e1 : ((i : Int) % 2 ^ 64) = i := by omega
 simp only [IntKind.wrap, IntKind.signed, IntKind.bits, e1]
 rw [if_neg]
 simp; omega
theorem Ax {i : Nat} (h : i + 1 < 2 ^ 63) : IntKind.i64.wrap ((i : Int) + 1) = ((i + 1 : Nat) : Int) := by
 rw [← Cz h]; simp
theorem BT (n : Nat) : Int.ofNat n = (n : Int) := rfl
theorem U8 {L M : List (List Nat)} {i : Nat} (h : L.take i = M.take i) (h1 : i < L.length) (h2 : i < M.length) (he : L[i] = M[i]) : L.take (i + 1) = M.take (i + 1) := by
 rw [List.take_succ_eq_append_getElem h1, List.take_succ_eq_append_getElem h2, h, he]
def U9 (L M : List (List Nat)) : Bool := decide (L = M)
theorem W1 (L M : List (List Nat)) (hL : L.length < 2 ^ 62) (s : St) : (lim prog).call Ca [tx L, tx M] s = some (.b (U9 L M), s) := by
 refine fn_W Fd rfl rfl ?_
 simp only [BN, UT, US, Az, UU, PV, PW, UR, Au, PX, L7, AL, MC, UZ, Ua, Ub, Uc, Bool.not_true, Bool.not_false, PZ, MB, Ho, L8, L9, KS_n, KS_x, KS_r, KB_n, KB_x, KB_r, UP, UQ, UV, PY, KF_n, KF_r, KG_n, KG_r, KL_n, KL_x, KL_r, MA, JO, evOp, evX, X.ev, optX, IL, JL, JQ, UX, UY, Nat.reduceBEq, Nat.reduceAdd, Nat.reduceLT, Nat.reduceLeDiff, Nat.reduceEqDiff, reduceIte, if_true, if_false, PA, PB, PC, PD, PE, PF, PG, PH, PJ, PK, PL, PM, Am.unOp, ret1, pubL, pub, pubA, FW, wkZ, wk, Cp, GO, BW, C3, AOp.cls, Nat.beq_eq, Bool.or_eq_true, decide_true, decide_false, beq_self_eq_true, Bool.true_or, Bool.or_true, true_and, and_true, lenA, eqv, eqB, eqP, scal, Ay, List.getElem?_cons_zero, List.getElem?_cons_succ, PN, Lw, Jl, updM, UB, UC, UD, Int.reduceEq, ret1, Lv, HE, reduceCtorEq, Bool.xor_true, Bool.xor_false, Bool.false_eq_true, List.all_cons, List.all_nil, noTok, Bool.and_self, Bool.and_true, Bool.true_and, List.length_map, BT]
 refine M8 (fun h => AI (Over.enter s) rfl ?_) (fun h => ?_)
 · have : ¬ L = M := fun hh => by subst hh; exact absurd rfl h
   simp [BW, wkZ, wk, U9, this]
 have hl : L.length = M.length := by simp at h; omega
 refine CI (fun n e s1 => s1 = s.enter ∧ e.get 0 = tx L ∧ e.get 1 = tx M ∧ e.get 12 = .i .i64 L.length ∧ ∃ i : Nat, i + n = L.length ∧ e.get 13 = .i .i64 i ∧ L.take i = M.take i) ?_ L.length _ _ ?_
 · rintro n e s1 ⟨rfl, h0, h1, h12, i, hi, h13, hp⟩
   simp only [UT, US, Az, UU, PV, PW, UR, Au, PX, L7, AL, MC, UZ, Ua, Ub, Uc, Bool.not_true, Bool.not_false, PZ, MB, Ho, L8, L9, KS_n, KS_x, KS_r, KB_n, KB_x, KB_r, UP, UQ, UV, PY, KF_n, KF_r, KG_n, KG_r, KL_n, KL_x, KL_r, MA, JO, evOp, evX, X.ev, optX, IL, JL, JQ, UX, UY, Nat.reduceBEq, Nat.reduceAdd, Nat.reduceLT, Nat.reduceLeDiff, Nat.reduceEqDiff, reduceIte, if_true, if_false, PA, PB, PC, PD, PE, PF, PG, PH, PJ, PK, PL, PM, Am.unOp, ret1, pubL, pub, pubA, FW, wkZ, wk, Cp, GO, BW, C3, AOp.cls, Nat.beq_eq, Bool.or_eq_true, decide_true, decide_false, beq_self_eq_true, Bool.true_or, Bool.or_true, true_and, and_true, lenA, eqv, eqB, eqP, scal, Ay, List.getElem?_cons_zero, List.getElem?_cons_succ, PN, Lw, Jl, updM, UB, UC, UD, Int.reduceEq, ret1, Lv, HE, reduceCtorEq, Bool.xor_true, Bool.xor_false, Bool.false_eq_true, List.all_cons, List.all_nil, noTok, Bool.and_self, Bool.and_true, Bool.true_and, h0, h1, h12, h13, List.length_map, BT]
   refine M8 (fun hlt => ?_) (fun hge => ?_)
   · have hlt : i < L.length := by omega
     have hlm : i < M.length := by omega
     simp only [UT, US, Az, UU, PV, PW, UR, Au, PX, L7, AL, MC, UZ, Ua, Ub, Uc, Bool.not_true, Bool.not_false, PZ, MB, Ho, L8, L9, KS_n, KS_x, KS_r, KB_n, KB_x, KB_r, UP, UQ, UV, PY, KF_n, KF_r, KG_n, KG_r, KL_n, KL_x, KL_r, MA, JO, evOp, evX, X.ev, optX, IL, JL, JQ, UX, UY, Nat.reduceBEq, Nat.reduceAdd, Nat.reduceLT, Nat.reduceLeDiff, Nat.reduceEqDiff, reduceIte, if_true, if_false, PA, PB, PC, PD, PE, PF, PG, PH, PJ, PK, PL, PM, Am.unOp, ret1, pubL, pub, pubA, FW, wkZ, wk, Cp, GO, BW, C3, AOp.cls, Nat.beq_eq, Bool.or_eq_true, decide_true, decide_false, beq_self_eq_true, Bool.true_or, Bool.or_true, true_and, and_true, lenA, eqv, eqB, eqP, scal, Ay, List.getElem?_cons_zero, List.getElem?_cons_succ, PN, Lw, Jl, updM, UB, UC, UD, Int.reduceEq, ret1, Lv, HE, reduceCtorEq, Bool.xor_true, Bool.xor_false, Bool.false_eq_true, List.all_cons, List.all_nil, noTok, Bool.and_self, Bool.and_true, Bool.true_and, h0, h1, h12, h13, List.length_map, BT, AK, Xf hlt, Xf hlm, Bi, DW, Ax (show i + 1 < 2 ^ 63 by omega)]
     refine M8 (fun hne => AI (Over.enter s) rfl ?_) (fun he => ⟨n - 1, by omega, i + 1, by omega, rfl, ?_⟩)
     · have : ¬ L = M := fun hh => by subst hh; exact hne rfl
       simp [BW, wkZ, wk, U9, this]
     · exact U8 hp hlt hlm (by simpa using he)
   · refine AI (Over.enter s) rfl ?_
     have hi' : i = L.length := by omega
     subst hi'
     rw [List.take_length, hl, List.take_length] at hp
     simp [BW, wkZ, wk, U9, hp]
 · simp only [UT, US, Az, UU, PV, PW, UR, Au, PX, L7, AL, MC, UZ, Ua, Ub, Uc, Bool.not_true, Bool.not_false, PZ, MB, Ho, L8, L9, KS_n, KS_x, KS_r, KB_n, KB_x, KB_r, UP, UQ, UV, PY, KF_n, KF_r, KG_n, KG_r, KL_n, KL_x, KL_r, MA, JO, evOp, evX, X.ev, optX, IL, JL, JQ, UX, UY, Nat.reduceBEq, Nat.reduceAdd, Nat.reduceLT, Nat.reduceLeDiff, Nat.reduceEqDiff, reduceIte, if_true, if_false, PA, PB, PC, PD, PE, PF, PG, PH, PJ, PK, PL, PM, Am.unOp, ret1, pubL, pub, pubA, FW, wkZ, wk, Cp, GO, BW, C3, AOp.cls, Nat.beq_eq, Bool.or_eq_true, decide_true, decide_false, beq_self_eq_true, Bool.true_or, Bool.or_true, true_and, and_true, lenA, eqv, eqB, eqP, scal, Ay, List.getElem?_cons_zero, List.getElem?_cons_succ, PN, Lw, Jl, updM, UB, UC, UD, Int.reduceEq, ret1, Lv, HE, reduceCtorEq, Bool.xor_true, Bool.xor_false, Bool.false_eq_true, List.all_cons, List.all_nil, noTok, Bool.and_self, Bool.and_true, Bool.true_and]
   exact ⟨0, by omega, rfl, by simp⟩

inductive ND where
 | mk (k : Nat) (t : List Nat) (ns : List (List Nat)) (ks : List ND)
def ND.kind : ND → Nat | .mk k _ _ _ => k
def ND.text : ND → List Nat | .mk _ t _ _ => t
def ND.names : ND → List (List Nat) | .mk _ _ ns _ => ns
def ND.kids : ND → List ND | .mk _ _ _ ks => ks
mutual
def ND.av : ND → AV
 | .mk k t ns ks => .agg [.i .u8 (k : Nat), .s t, tx ns, .ws false 4 (ND.avs ks)]
def ND.avs : List ND → List AV
 | [] => []
 | n :: l => n.av :: ND.avs l
end
theorem ND.avs_map : ∀ l : List ND, ND.avs l = l.map ND.av
 | [] => by simp [ND.avs]
 | n :: l => by simp only [ND.avs, ND.avs_map l, List.map_cons]
def ND.cells (n : ND) : List AV := [.i .u8 (n.kind : Nat), .s n.text, tx n.names, .ws false 4 (n.kids.map ND.av)]
theorem ND.av_eq (n : ND) : n.av = .agg n.cells := by
 cases n with
 | mk k t ns ks => simp only [ND.av, ND.avs_map, ND.cells, ND.kind, ND.text, ND.names, ND.kids]
theorem ND.lt {n k : ND} (h : k ∈ n.kids) : SizeOf.sizeOf k < SizeOf.sizeOf n := by
 cases n with
 | mk a t ns ks =>
   have h : k ∈ ks := h
   have := List.sizeOf_lt_of_mem h
   simp only [ND.mk.sizeOf_spec]
   omega
theorem ND.ind {P : ND → Prop} (h : ∀ n, (∀ k ∈ n.kids, P k) → P n) (n : ND) : P n := by
 have : ∀ (m : Nat) (n : ND), SizeOf.sizeOf n < m → P n := by
  intro m
  induction m with
  | zero => intro n hn; omega
  | succ m ih =>
    intro n hn
    exact h n fun k hk => ih k (by have := ND.lt hk; omega)
 exact this _ n (Nat.lt_succ_self _)
mutual
def nodesN : ND → Nat
 | .mk _ _ _ ks => 1 + Pw ks
def Pw : List ND → Nat
 | [] => 0
 | k :: ks => nodesN k + Pw ks
end
theorem NI : ∀ l : List ND, Pw l = (l.map nodesN).sum
 | [] => by simp [Pw]
 | k :: l => by simp only [Pw, NI l, List.map_cons, List.sum_cons]
theorem Gt (n : ND) : nodesN n = 1 + (n.kids.map nodesN).sum := by
 cases n with
 | mk a t ns ks => simp only [nodesN, NI, ND.kids]
mutual
def deepN : ND → Nat
 | .mk _ _ _ ks => U6 ks
def U6 : List ND → Nat
 | [] => 0
 | k :: ks => max (1 + deepN k) (U6 ks)
end
theorem NJ : ∀ (l : List ND), U6 l = (l.map fun k => 1 + deepN k).foldr max 0
 | [] => by simp [U6]
 | k :: l => by simp only [U6, NJ l, List.map_cons, List.foldr_cons]
theorem Rt (n : ND) : deepN n = (n.kids.map fun k => 1 + deepN k).foldr max 0 := by
 cases n with
 | mk a t ns ks => simp only [deepN, NJ, ND.kids]
theorem IR {α : Type} {f : α → Nat} {l : List α} {a : α} (h : a ∈ l) : f a ≤ (l.map f).sum := by
 induction l with
 | nil => cases h
 | cons b l ih =>
   rw [List.map_cons, List.sum_cons]
   rcases List.mem_cons.1 h with rfl | h
   · omega
   · have := ih h; omega
theorem F4 {α : Type} (f : α → Nat) (l : List α) (i : Nat) : ((l.take i).map f).sum ≤ (l.map f).sum := by
 induction l generalizing i with
 | nil => simp
 | cons a l ih => cases i with
   | zero => simp
   | succ i => simp only [List.take_succ_cons, List.map_cons, List.sum_cons]; have := ih i; omega
theorem HO {α : Type} (f : α → Nat) {l : List α} {i : Nat} {a : α} (h : l[i]? = some a) : ((l.take (i + 1)).map f).sum = ((l.take i).map f).sum + f a := by
 rw [List.take_add_one, h]
 simp

attribute [local irreducible] W WO WE WQ WD Tr.get Tr.set
theorem Hw {n : ND} {i : Nat} {k : ND} (h : n.kids[i]? = some k) : (n.kids.map ND.av)[i]? = some (.agg k.cells) := by
 rw [List.getElem?_map, h, Option.map_some, ND.av_eq]
theorem Af (k : ND) : k.cells.length = 4 := rfl
theorem GU (k : ND) : ones k.cells = true := rfl
theorem AU (k : ND) (s : St) : pubL s k.cells = some (k.cells, s) := rfl
theorem FI (k : ND) (s : St) : frzL s k.cells = some (k.cells, s) := rfl
theorem ML : ∀ n : ND, n.av.refs = false := by
 refine ND.ind fun n ih => ?_
 have : ∀ l : List ND, (∀ k ∈ l, k.av.refs = false) → AV.refs.go (l.map ND.av) = false := by
  intro l
  induction l with
  | nil => intro _; rfl
  | cons a l il =>
    intro h
    simp only [List.map_cons, AV.refs.go, h a (by simp), il fun k hk => h k (by simp [hk]), Bool.or_self]
 rw [ND.av_eq]
 simp only [ND.cells, AV.refs, AV.refs.go, this _ ih, Ea, Bool.or_self]
theorem Wy : ∀ n : ND, nodesN n < 2 ^ 62 → ∀ s, Wf s → (lim prog).call Fb [.agg n.cells] s = some (.i .i64 (nodesN n : Nat), s) := by
 refine ND.ind fun n ih hb s hw => ?_
 refine fn_W OC rfl rfl ?_
 have H1 := (Hp.begin hw).new (.cells 30 n.cells)
 generalize hq : s.enter.new (.cells 30 n.cells) = q at H1
 generalize hm : s.enter.nb = m at H1
 have l1 := H1.ld 0 (off := 3) (v := .ws false 4 (n.kids.map ND.av)) rfl rfl
 have hN := Gt n
 have hk : n.kids.length ≤ (n.kids.map nodesN).sum := by
  generalize n.kids = l
  induction l with
  | nil => simp
  | cons a l il => simp only [List.length_cons, List.map_cons, List.sum_cons]; have := Gt a; omega
 have hc0 : (AV.agg n.cells).cells = n.cells := rfl
 have hz0 : wkZ DL.cin [.agg n.cells] = [.agg n.cells] := by simp [DL, wkZ, wk, ND.cells]
 rw [hz0]
 simp only [DL, go_sem, AD, AA, AC, AB, KB_n, KB_x, Nat.reduceBEq, Nat.reduceAdd, Nat.reduceLT, Nat.reduceLeDiff, Nat.reduceEqDiff, reduceIte, Int.reduceEq, reduceCtorEq, Af, hq, hm, l1, Nat.zero_add]
 refine CI (fun x e q => ∃ i : Nat, i + x = n.kids.length ∧ Hp s q s.en [] [(m, .cells 30 n.cells)] ∧ e.get 1 = .p m 0 ∧ e.get 3 = .i .i64 ((1 + ((n.kids.take i).map nodesN).sum : Nat) : Int) ∧ e.get 7 = .ws false 4 (n.kids.map ND.av) ∧ e.get 8 = .i .i64 (n.kids.length : Nat) ∧ e.get 9 = .i .i64 (i : Nat)) ?_ n.kids.length _ _ ?_
 · rintro x e q' ⟨i, hi, H, g1, g3, g7, g8, g9⟩
   by_cases h : i < n.kids.length
   · have e1 : ((i : Int) < (n.kids.length : Int)) = True := eq_true (by omega)
     obtain ⟨k, hk1⟩ : ∃ k, n.kids[i]? = some k := ⟨_, List.getElem?_eq_getElem h⟩
     have hmem : k ∈ n.kids := List.mem_of_getElem? hk1
     have hget := Hw hk1
     have hle := IR (f := nodesN) hmem
     have hts := HO nodesN hk1
     have htl := F4 nodesN n.kids (i + 1)
     have H2 := H.new (.cells 30 [.i .u8 0, .s [], .nsl, .nsl])
     generalize hq2 : q'.new (.cells 30 [.i .u8 0, .s [], .nsl, .nsl]) = q2 at H2
     generalize hi2 : q'.nb = j2 at H2
     obtain ⟨q3, e3, H3, _⟩ := H2.stw 0 (v := .agg k.cells) (m := 4) rfl rfl ⟨Af k, GU k⟩
     have l3 := H3.ldw 0 (m := 4) rfl rfl
     have hc := ih k hmem (by omega) q3 H3.wf
     have hsum : IntKind.i64.wrap (((1 + ((n.kids.take i).map nodesN).sum : Nat) : Int) + ((nodesN k : Nat) : Int)) = ((1 + ((n.kids.take (i + 1)).map nodesN).sum : Nat) : Int) := by
      rw [hts, show ((1 + ((n.kids.take i).map nodesN).sum : Nat) : Int) + ((nodesN k : Nat) : Int) = ((1 + (((n.kids.take i).map nodesN).sum + nodesN k) : Nat) : Int) by omega]
      exact Cz (by omega)
     have hw1 := Ax (show i + 1 < 2 ^ 63 by omega)
     have hld : ldA q' true 4 (.ep k.cells 0 .shut) = some (.agg k.cells) := rfl
     simp only [go_sem, AD, AA, AC, AB, KB_n, KB_x, Nat.reduceBEq, Nat.reduceAdd, Nat.reduceLT, Nat.reduceLeDiff, Nat.reduceEqDiff, reduceIte, Int.reduceEq, reduceCtorEq, g1, g3, g7, g8, g9, e1, AK, hget, hld, hq2, hi2, e3, l3, hc, hsum, hw1, AU]
     exact ⟨x - 1, by omega, i + 1, by omega, (H3.sel [] [1] (by simp) (by simp)), rfl, rfl⟩
   · have e1 : ((i : Int) < (n.kids.length : Int)) = False := eq_false (by omega)
     obtain rfl : i = n.kids.length := by omega
     simp only [go_sem, AD, AA, AC, AB, KB_n, KB_x, Nat.reduceBEq, Nat.reduceAdd, Nat.reduceLT, Nat.reduceLeDiff, Nat.reduceEqDiff, reduceIte, Int.reduceEq, reduceCtorEq, g1, g3, g7, g8, g9, e1]
     refine AI H.over rfl ?_
     rw [hN, List.take_length]; rfl
 · simp only [go_sem, AD, AA, AC, AB, KB_n, KB_x, Nat.reduceBEq, Nat.reduceAdd, Nat.reduceLT, Nat.reduceLeDiff, Nat.reduceEqDiff, reduceIte, Int.reduceEq, reduceCtorEq]
   exact ⟨0, by omega, H1, by simp⟩
theorem Kk {α : Type} (f : α → Nat) (B : Nat) : ∀ {l : List α}, (∀ a ∈ l, f a ≤ B) → (l.map f).foldr max 0 ≤ B
 | [], _ => by simp
 | a :: l, h => by
   simp only [List.map_cons, List.foldr_cons]
   have := Kk f B (l := l) fun x hx => h x (by simp [hx])
   have := h a (by simp)
   omega
theorem Wz {α : Type} (f : α → Nat) {l : List α} {i : Nat} {a : α} (h : l[i]? = some a) : ((l.take (i + 1)).map f).foldr max 0 = max ((l.take i).map f |>.foldr max 0) (f a) := by
 rw [List.take_add_one, h]
 have : ∀ (L : List Nat) (x : Nat), (L ++ [x]).foldr max 0 = max (L.foldr max 0) x := by
  intro L x
  induction L with
  | nil => simp
  | cons b L ih => simp only [List.cons_append, List.foldr_cons, ih]; omega
 simp only [Option.toList_some, List.map_append, List.map_cons, List.map_nil, this]
theorem Sk : ∀ n : ND, deepN n ≤ nodesN n := by
 refine ND.ind fun n ih => ?_
 rw [Rt, Gt]
 refine Kk _ _ fun k hk => ?_
 have := ih k hk
 have := IR (f := nodesN) hk
 omega
theorem W0 : ∀ n : ND, nodesN n < 2 ^ 62 → ∀ s, Wf s → (lim prog).call Fc [.agg n.cells] s = some (.i .i64 (deepN n : Nat), s) := by
 refine ND.ind fun n ih hb s hw => ?_
 refine fn_W OD rfl rfl ?_
 have H1 := (Hp.begin hw).new (.cells 30 n.cells)
 generalize hq : s.enter.new (.cells 30 n.cells) = q at H1
 generalize hm : s.enter.nb = m at H1
 have l1 := H1.ld 0 (off := 3) (v := .ws false 4 (n.kids.map ND.av)) rfl rfl
 have hN := Gt n
 have hk : n.kids.length ≤ (n.kids.map nodesN).sum := by
  generalize n.kids = l
  induction l with
  | nil => simp
  | cons a l il => simp only [List.length_cons, List.map_cons, List.sum_cons]; have := Gt a; omega
 have hz0 : wkZ DM.cin [.agg n.cells] = [.agg n.cells] := by simp [DM, wkZ, wk, ND.cells]
 rw [hz0]
 simp only [DM, go_sem, AD, AA, AC, AB, KB_n, KB_x, Nat.reduceBEq, Nat.reduceAdd, Nat.reduceLT, Nat.reduceLeDiff, Nat.reduceEqDiff, reduceIte, Int.reduceEq, reduceCtorEq, Af, hq, hm, l1, Nat.zero_add]
 refine CI (fun x e q => ∃ i : Nat, i + x = n.kids.length ∧ Hp s q s.en [] [(m, .cells 30 n.cells)] ∧ e.get 1 = .p m 0 ∧ e.get 3 = .i .i64 ((((n.kids.take i).map fun k => 1 + deepN k).foldr max 0 : Nat) : Int) ∧ e.get 7 = .ws false 4 (n.kids.map ND.av) ∧ e.get 8 = .i .i64 (n.kids.length : Nat) ∧ e.get 9 = .i .i64 (i : Nat)) ?_ n.kids.length _ _ ?_
 · rintro x e q' ⟨i, hi, H, g1, g3, g7, g8, g9⟩
   by_cases h : i < n.kids.length
   · have e1 : ((i : Int) < (n.kids.length : Int)) = True := eq_true (by omega)
     obtain ⟨k, hk1⟩ : ∃ k, n.kids[i]? = some k := ⟨_, List.getElem?_eq_getElem h⟩
     have hmem : k ∈ n.kids := List.mem_of_getElem? hk1
     have hget := Hw hk1
     have hle := IR (f := nodesN) hmem
     have hdn := Sk k
     have hmt := Wz (fun k => 1 + deepN k) hk1
     have H2 := H.new (.cells 30 [.i .u8 0, .s [], .nsl, .nsl])
     generalize hq2 : q'.new (.cells 30 [.i .u8 0, .s [], .nsl, .nsl]) = q2 at H2
     generalize hi2 : q'.nb = j2 at H2
     obtain ⟨q3, e3, H3, _⟩ := H2.stw 0 (v := .agg k.cells) (m := 4) rfl rfl ⟨Af k, GU k⟩
     have l3 := H3.ldw 0 (m := 4) rfl rfl
     have hc := ih k hmem (by omega) q3 H3.wf
     have hsum : IntKind.i64.wrap (1 + ((deepN k : Nat) : Int)) = ((1 + deepN k : Nat) : Int) := by
      rw [show (1 : Int) + ((deepN k : Nat) : Int) = ((1 + deepN k : Nat) : Int) by omega]
      exact Cz (by omega)
     have hmx : (if ((1 + deepN k : Nat) : Int) > ((((n.kids.take i).map fun k => 1 + deepN k).foldr max 0 : Nat) : Int) then ((1 + deepN k : Nat) : Int) else ((((n.kids.take i).map fun k => 1 + deepN k).foldr max 0 : Nat) : Int)) = ((((n.kids.take (i + 1)).map fun k => 1 + deepN k).foldr max 0 : Nat) : Int) := by
      rw [hmt]
      split <;> omega
     have hw1 := Ax (show i + 1 < 2 ^ 63 by omega)
     have hld : ldA q' true 4 (.ep k.cells 0 .shut) = some (.agg k.cells) := rfl
     simp only [go_sem, AD, AA, AC, AB, KB_n, KB_x, Nat.reduceBEq, Nat.reduceAdd, Nat.reduceLT, Nat.reduceLeDiff, Nat.reduceEqDiff, reduceIte, Int.reduceEq, reduceCtorEq, g1, g3, g7, g8, g9, e1, AK, hget, hld, hq2, hi2, e3, l3, hc, hsum, hw1, AU, hmx]
     exact ⟨x - 1, by omega, i + 1, by omega, (H3.sel [] [1] (by simp) (by simp)), rfl, rfl⟩
   · have e1 : ((i : Int) < (n.kids.length : Int)) = False := eq_false (by omega)
     obtain rfl : i = n.kids.length := by omega
     simp only [go_sem, AD, AA, AC, AB, KB_n, KB_x, Nat.reduceBEq, Nat.reduceAdd, Nat.reduceLT, Nat.reduceLeDiff, Nat.reduceEqDiff, reduceIte, Int.reduceEq, reduceCtorEq, g1, g3, g7, g8, g9, e1]
     refine AI H.over rfl ?_
     rw [Rt n, List.take_length]; rfl
 · simp only [go_sem, AD, AA, AC, AB, KB_n, KB_x, Nat.reduceBEq, Nat.reduceAdd, Nat.reduceLT, Nat.reduceLeDiff, Nat.reduceEqDiff, reduceIte, Int.reduceEq, reduceCtorEq]
   exact ⟨0, by omega, H1, by simp⟩
end Go.Proofs.YtbfgoopcnkeblaaGreat

namespace Go.Proofs.YtbfgoopcnkeblaaGreat
open Go.Proofs.YtbfgoopcnkeblaaGreat.Am
/-! ### A byte in a text -/
theorem VA {a c : Nat} (h : ¬ a = c) : Nat.beq a c = false := Bool.eq_false_iff.2 (by rw [Ne, Nat.beq_eq]; exact h)
theorem Rx {c : Nat} : ∀ {l : List Nat} {n : Nat}, idxB c n l < 0 ↔ c ∉ l
 | [], n => by simp [idxB]
 | a :: l, n => by
   simp only [idxB]
   by_cases h : a = c
   · subst h
     simp [Nat.beq_eq]
   · have hb : Nat.beq a c = false := VA h
     rw [hb, cond_false, Rx]
     simp; omega
theorem Px {c : Nat} : ∀ {l : List Nat} {n : Nat}, c ∉ l → idxB c n l = -1
 | [], n, _ => rfl
 | a :: l, n, h => by
   simp only [List.mem_cons, not_or] at h
   have hb : Nat.beq a c = false := VA (Ne.symm h.1)
   simp only [idxB]
   rw [hb, cond_false, Px h.2]
theorem ext0 (s : St) (l : List Nat) (c : Nat) (hc : c < 256) : extA s 0 [.s l, .i .u8 (c : Int)] = some (.i .i64 (idxB c 0 l), s) := by
 have h : ((IntKind.u8 = IntKind.u8) ∧ (0 : Int) ≤ (c : Int) ∧ (c : Int) < 256) := ⟨rfl, by omega, by omega⟩
 show (if _ then _ else _) = _
 rw [if_pos h]
 simp
theorem OO (l : List Nat) (c : Nat) (hc : c < 256) (s : St) : (lim prog).call Bx [.s l, .i .u8 (c : Int)] s = some (.i .i64 (idxB c 0 l), s) := by
 refine fn_W Ek rfl rfl ?_
 simp only [BA, go_sem, Az, AL, AM, AN, Au, KB_n, KB_x, Nat.reduceBEq, Nat.reduceAdd, Nat.reduceLT, Nat.reduceLeDiff, Nat.reduceEqDiff, reduceIte, Int.reduceEq, reduceCtorEq, ext0 _ l c hc]
 exact AI (Over.enter s) rfl rfl
theorem GK (l : List Nat) (c : Nat) (hc : c < 256) (s : St) : (lim prog).call CA [.s l, .i .u8 (c : Int)] s = some (.i .i64 (idxB c 0 l), s) := by
 refine fn_W Ir rfl rfl ?_
 simp only [Ck, go_sem, Az, AL, AM, AN, Au, KB_n, KB_x, Nat.reduceBEq, Nat.reduceAdd, Nat.reduceLT, Nat.reduceLeDiff, Nat.reduceEqDiff, reduceIte, Int.reduceEq, reduceCtorEq, OO l c hc]
 exact AI (Over.enter s) rfl rfl
theorem VB : Cg (.i .i64 0) = some 0 := rfl

theorem u8N {n : Nat} (h : n < 256) : (UInt8.ofNat n).toNat = n := by simp [UInt8.toNat_ofNat']; omega
theorem VC {r : Int} (h0 : 128 ≤ r) (hv : Utf8.valid r = true) : (∃ a b, encN r = [a, b] ∧ 128 ≤ b ∧ b < 256) ∨ (∃ a b c, encN r = [a, b, c] ∧ 128 ≤ c ∧ c < 256) ∨ ∃ a b c d, encN r = [a, b, c, d] := by
 have hr : r ≤ 1114111 := by
  simp only [Utf8.valid, Bool.or_eq_true, Bool.and_eq_true, decide_eq_true_eq] at hv
  omega
 obtain ⟨n, rfl⟩ : ∃ n : Nat, r = n := ⟨r.toNat, by omega⟩
 simp only [encN, Utf8.encode, hv, if_true, Int.toNat_natCast]
 by_cases h1 : n < 128
 · omega
 rw [if_neg h1]
 by_cases h2 : n < 2048
 · rw [if_pos h2]
   exact .inl ⟨_, _, rfl, by show 128 ≤ (UInt8.ofNat _).toNat; rw [u8N (by omega)]; omega, by show (UInt8.ofNat _).toNat < 256; rw [u8N (by omega)]; omega⟩
 rw [if_neg h2]
 by_cases h3 : n < 65536
 · rw [if_pos h3]
   exact .inr (.inl ⟨_, _, _, rfl, by show 128 ≤ (UInt8.ofNat _).toNat; rw [u8N (by omega)]; omega, by show (UInt8.ofNat _).toNat < 256; rw [u8N (by omega)]; omega⟩)
 rw [if_neg h3]
 exact .inr (.inr ⟨_, _, _, _, rfl⟩)
theorem Py (r : Int) (s : St) : (lim prog).call DD [.i .i32 r] s = some (.b (Utf8.valid r), s) := by
 refine fn_W Gp rfl rfl ?_
 simp only [Bo, go_sem, Az, AL, AM, AN, Au, KB_n, KB_x, Nat.reduceBEq, Nat.reduceAdd, Nat.reduceLT, Nat.reduceLeDiff, Nat.reduceEqDiff, reduceIte, Int.reduceEq, reduceCtorEq]
 by_cases h0 : 0 ≤ r
 · by_cases h1 : r < 55296
   · simp only [go_sem, Az, AL, AM, AN, Au, KB_n, KB_x, Nat.reduceBEq, Nat.reduceAdd, Nat.reduceLT, Nat.reduceLeDiff, Nat.reduceEqDiff, reduceIte, Int.reduceEq, reduceCtorEq, h0, h1]
     exact AI (Over.enter s) rfl (by simp [BW, wkZ, wk, Utf8.valid, h0, h1])
   · by_cases h2 : 57343 < r
     · by_cases h3 : r ≤ 1114111
       · simp only [go_sem, Az, AL, AM, AN, Au, KB_n, KB_x, Nat.reduceBEq, Nat.reduceAdd, Nat.reduceLT, Nat.reduceLeDiff, Nat.reduceEqDiff, reduceIte, Int.reduceEq, reduceCtorEq, h0, h1, h2, h3]
         refine AI (Over.enter s) rfl ?_
         have h4 : 57344 ≤ r := by omega
         simp [BW, wkZ, wk, Utf8.valid, h3, h4]
       · simp only [go_sem, Az, AL, AM, AN, Au, KB_n, KB_x, Nat.reduceBEq, Nat.reduceAdd, Nat.reduceLT, Nat.reduceLeDiff, Nat.reduceEqDiff, reduceIte, Int.reduceEq, reduceCtorEq, h0, h1, h2, h3]
         refine AI (Over.enter s) rfl ?_
         simp [BW, wkZ, wk, Utf8.valid, h1, h3]
     · simp only [go_sem, Az, AL, AM, AN, Au, KB_n, KB_x, Nat.reduceBEq, Nat.reduceAdd, Nat.reduceLT, Nat.reduceLeDiff, Nat.reduceEqDiff, reduceIte, Int.reduceEq, reduceCtorEq, h0, h1, h2]
       refine AI (Over.enter s) rfl ?_
       have h4 : ¬ 57344 ≤ r := by omega
       simp [BW, wkZ, wk, Utf8.valid, h1, h4]
 · have h2 : ¬ 57343 < r := by omega
   simp only [go_sem, Az, AL, AM, AN, Au, KB_n, KB_x, Nat.reduceBEq, Nat.reduceAdd, Nat.reduceLT, Nat.reduceLeDiff, Nat.reduceEqDiff, reduceIte, Int.reduceEq, reduceCtorEq, h0, h2]
   refine AI (Over.enter s) rfl ?_
   have h4 : ¬ 57344 ≤ r := by omega
   simp [BW, wkZ, wk, Utf8.valid, h0, h4]
abbrev K3 : List Nat := [47, 0, 10]
def Pz (r : Int) : Int := if r < 128 then idxB r.toNat 0 K3 else -1
theorem VD (i : Nat) : Cg (.i .i64 (i : Int)) = some i := AK _ i
theorem Xg : Cg (.i .i64 1) = some 1 := rfl
theorem Xh : Cg (.i .i64 2) = some 2 := rfl
theorem w1 : IntKind.i64.wrap (2 - 1) = 1 := rfl
theorem w2 : IntKind.i64.wrap (3 - 1) = 2 := rfl
theorem w3 : IntKind.i64.wrap (4 - 1) = 3 := rfl
theorem w4 : IntKind.i64.wrap (1 + 1) = 2 := rfl
theorem w5 : IntKind.i64.wrap (2 + 1) = 3 := rfl
theorem bnd2 : Ch 3 (some (.i .i64 2)) none = some (2, 3) := rfl
theorem bnd3 : Ch 3 (some (.i .i64 3)) none = some (3, 3) := rfl
theorem Kn (r : Int) (h0 : 0 ≤ r) (h1 : r ≤ 2147483647) (s : St) : (lim prog).call CB [.s K3, .i .i32 r] s = some (.i .i64 (Pz r), s) := by
 refine fn_W It rfl rfl ?_
 have h0' : ((0 : Int) ≤ r) = True := by simp [h0]
 by_cases hr : r < 128
 · have hr' : (r < 128) = True := by simp [hr]
   obtain ⟨n, rfl⟩ : ∃ n : Nat, r = n := ⟨r.toNat, by omega⟩
   have hw : IntKind.u8.wrap (n : Int) = (n : Int) := by
    have e : (n : Int) % 2 ^ 8 = n := by omega
    simp only [IntKind.wrap, IntKind.signed, IntKind.bits, e]
    rfl
   simp only [A8, go_sem, Az, AL, AM, AN, Au, KB_n, KB_x, Nat.reduceBEq, Nat.reduceAdd, Nat.reduceLT, Nat.reduceLeDiff, Nat.reduceEqDiff, reduceIte, Int.reduceEq, reduceCtorEq, h0', hr', hw, GK K3 n (by omega)]
   exact AI (Over.enter s) rfl (by simp [BW, wkZ, wk, Pz, hr])
 · have hr' : (r < 128) = False := by simp [hr]
   have hP : Pz r = -1 := by unfold Pz; rw [if_neg hr]
   by_cases he : r = 65533
   · have he' : (r = 65533) = True := by simp [he]
     simp only [A8, go_sem, Az, AL, AM, AN, Au, KB_n, KB_x, Nat.reduceBEq, Nat.reduceAdd, Nat.reduceLT, Nat.reduceLeDiff, Nat.reduceEqDiff, reduceIte, Int.reduceEq, reduceCtorEq, h0', hr', he']
     refine CI (fun n e q => ∃ p : Nat, p + n = 3 ∧ q = s.enter.new (.siter K3 p) ∧ e.get 175 = .p s.enter.nb 0) ?_ 3 _ _ ?_
     · rintro n e q ⟨p, hp, rfl, g⟩
       have hs : ∀ p', (s.enter.new (.siter K3 p)).setBox s.enter.nb (.siter K3 p') = s.enter.new (.siter K3 p') := fun p' => HE _ _ _
       have h47 : ((Int.ofNat 47 : Int) = 65533) = False := by simp
       have h00 : ((Int.ofNat 0 : Int) = 65533) = False := by simp
       have h10 : ((Int.ofNat 10 : Int) = 65533) = False := by simp
       have l3 : ([47, 0, 10] : List Nat)[3]? = none := rfl
       have a1 : (47 < 128) = True := by simp
       have a2 : (0 < 128) = True := by simp
       have a3 : (10 < 128) = True := by simp
       have hov := ((Over.enter s).new (.siter K3 3))
       have : p = 0 ∨ p = 1 ∨ p = 2 ∨ p = 3 := by omega
       rcases this with rfl | rfl | rfl | rfl
       · simp only [go_sem, Az, AL, AM, AN, Au, KB_n, KB_x, Nat.reduceBEq, Nat.reduceAdd, Nat.reduceLT, Nat.reduceLeDiff, Nat.reduceEqDiff, reduceIte, Int.reduceEq, reduceCtorEq, g, a1, a2, a3, h47, h00, h10, hs]
         exact ⟨n - 1, by omega, 1, by omega, rfl⟩
       · simp only [go_sem, Az, AL, AM, AN, Au, KB_n, KB_x, Nat.reduceBEq, Nat.reduceAdd, Nat.reduceLT, Nat.reduceLeDiff, Nat.reduceEqDiff, reduceIte, Int.reduceEq, reduceCtorEq, g, a1, a2, a3, h47, h00, h10, hs]
         exact ⟨n - 1, by omega, 2, by omega, rfl⟩
       · simp only [go_sem, Az, AL, AM, AN, Au, KB_n, KB_x, Nat.reduceBEq, Nat.reduceAdd, Nat.reduceLT, Nat.reduceLeDiff, Nat.reduceEqDiff, reduceIte, Int.reduceEq, reduceCtorEq, g, a1, a2, a3, h47, h00, h10, hs]
         exact ⟨n - 1, by omega, 3, by omega, rfl⟩
       · simp only [go_sem, Az, AL, AM, AN, Au, KB_n, KB_x, Nat.reduceBEq, Nat.reduceAdd, Nat.reduceLT, Nat.reduceLeDiff, Nat.reduceEqDiff, reduceIte, Int.reduceEq, reduceCtorEq, g, l3]
         exact AI hov rfl (by rw [hP]; rfl)
     · simp only [go_sem, Az, AL, AM, AN, Au, KB_n, KB_x, Nat.reduceBEq, Nat.reduceAdd, Nat.reduceLT, Nat.reduceLeDiff, Nat.reduceEqDiff, reduceIte, Int.reduceEq, reduceCtorEq]
       exact ⟨0, by omega, rfl⟩
   · have he' : (r = 65533) = False := by simp [he]
     have hv := Py r
     cases hvr : Utf8.valid r with
     | false =>
       rw [hvr] at hv
       simp only [A8, go_sem, Az, AL, AM, AN, Au, KB_n, KB_x, Nat.reduceBEq, Nat.reduceAdd, Nat.reduceLT, Nat.reduceLeDiff, Nat.reduceEqDiff, reduceIte, Int.reduceEq, reduceCtorEq, h0', hr', he', hv]
       exact AI (Over.enter s) rfl (by rw [hP]; rfl)
     | true =>
       rw [hvr] at hv
       have hl3 : List.length K3 = 3 := rfl
       rcases VC (show 128 ≤ r by omega) hvr with ⟨a, b, h2, hb1, hb2⟩ | ⟨a, b, c, h2, hb1, hb2⟩ | ⟨a, b, c, d, h2⟩
       · simp only [A8, go_sem, Az, AL, AM, AN, Au, KB_n, KB_x, Nat.reduceBEq, Nat.reduceAdd, Nat.reduceLT, Nat.reduceLeDiff, Nat.reduceEqDiff, reduceIte, Int.reduceEq, reduceCtorEq, h0', hr', he', hv, h2]
         refine CI (fun n e q => q = s.enter ∧ e.get 0 = .s K3 ∧ e.get 7 = .s [a, b] ∧ e.get 8 = .i .i64 1 ∧ e.get 9 = .i .i64 1) ?_ 0 _ _ ?_
         · rintro n e q ⟨rfl, g0, g7, g8, g9⟩
           have c1 : ((1 : Int) < 3) = True := by simp
           have c2 : ((0 : Int) ≠ (b : Int)) = True := by simp; omega
           have hix := GK [10] b hb2 s.enter
           have hmiss : idxB b 0 [10] = -1 := Px (by simp; omega)
           rw [hmiss] at hix
           have hd : ((([47, 0, 10] : List Nat).drop 2).take (3 - 2)) = [10] := rfl
           have hm1 : ((-1 : Int) < 0) = True := by simp
           simp only [go_sem, Az, AL, AM, AN, Au, KB_n, KB_x, Nat.reduceBEq, Nat.reduceAdd, Nat.reduceLT, Nat.reduceLeDiff, Nat.reduceEqDiff, reduceIte, Int.reduceEq, reduceCtorEq, g0, g7, g8, g9, List.length_cons, List.length_nil, BT, Int.cast_ofNat_Int, c1, Xg, c2, w4, bnd2, hd, hix, hm1]
           exact AI (Over.enter s) rfl (by rw [hP]; rfl)
         · simp only [go_sem, Az, AL, AM, AN, Au, KB_n, KB_x, Nat.reduceBEq, Nat.reduceAdd, Nat.reduceLT, Nat.reduceLeDiff, Nat.reduceEqDiff, reduceIte, Int.reduceEq, reduceCtorEq, w1, List.length_cons, List.length_nil, BT, Int.cast_ofNat_Int, and_self]
       · simp only [A8, go_sem, Az, AL, AM, AN, Au, KB_n, KB_x, Nat.reduceBEq, Nat.reduceAdd, Nat.reduceLT, Nat.reduceLeDiff, Nat.reduceEqDiff, reduceIte, Int.reduceEq, reduceCtorEq, h0', hr', he', hv, h2]
         refine CI (fun n e q => q = s.enter ∧ e.get 0 = .s K3 ∧ e.get 7 = .s [a, b, c] ∧ e.get 8 = .i .i64 2 ∧ e.get 9 = .i .i64 2) ?_ 0 _ _ ?_
         · rintro n e q ⟨rfl, g0, g7, g8, g9⟩
           have c1 : ((2 : Int) < 3) = True := by simp
           have c2 : ((10 : Int) ≠ (c : Int)) = True := by simp; omega
           have hix := GK [] c hb2 s.enter
           have hmiss : idxB c 0 [] = -1 := rfl
           rw [hmiss] at hix
           have hd : ((([47, 0, 10] : List Nat).drop 3).take (3 - 3)) = [] := rfl
           have hm1 : ((-1 : Int) < 0) = True := by simp
           simp only [go_sem, Az, AL, AM, AN, Au, KB_n, KB_x, Nat.reduceBEq, Nat.reduceAdd, Nat.reduceLT, Nat.reduceLeDiff, Nat.reduceEqDiff, reduceIte, Int.reduceEq, reduceCtorEq, g0, g7, g8, g9, List.length_cons, List.length_nil, BT, Int.cast_ofNat_Int, c1, Xh, c2, w5, bnd3, hd, hix, hm1]
           exact AI (Over.enter s) rfl (by rw [hP]; rfl)
         · simp only [go_sem, Az, AL, AM, AN, Au, KB_n, KB_x, Nat.reduceBEq, Nat.reduceAdd, Nat.reduceLT, Nat.reduceLeDiff, Nat.reduceEqDiff, reduceIte, Int.reduceEq, reduceCtorEq, w2, List.length_cons, List.length_nil, BT, Int.cast_ofNat_Int, and_self]
       · simp only [A8, go_sem, Az, AL, AM, AN, Au, KB_n, KB_x, Nat.reduceBEq, Nat.reduceAdd, Nat.reduceLT, Nat.reduceLeDiff, Nat.reduceEqDiff, reduceIte, Int.reduceEq, reduceCtorEq, h0', hr', he', hv, h2]
         refine CI (fun n e q => q = s.enter ∧ e.get 0 = .s K3 ∧ e.get 9 = .i .i64 3) ?_ 0 _ _ ?_
         · rintro n e q ⟨rfl, g0, g9⟩
           have c1 : ((3 : Int) < 3) = False := by simp
           simp only [go_sem, Az, AL, AM, AN, Au, KB_n, KB_x, Nat.reduceBEq, Nat.reduceAdd, Nat.reduceLT, Nat.reduceLeDiff, Nat.reduceEqDiff, reduceIte, Int.reduceEq, reduceCtorEq, g0, g9, List.length_cons, List.length_nil, BT, Int.cast_ofNat_Int, c1]
           exact AI (Over.enter s) rfl (by rw [hP]; rfl)
         · simp only [go_sem, Az, AL, AM, AN, Au, KB_n, KB_x, Nat.reduceBEq, Nat.reduceAdd, Nat.reduceLT, Nat.reduceLeDiff, Nat.reduceEqDiff, reduceIte, Int.reduceEq, reduceCtorEq, w3, List.length_cons, List.length_nil, BT, Int.cast_ofNat_Int, and_self]

abbrev bs (B : List Bool) : List AV := B.map AV.b
section
variable {s : St} {id T n : Nat}
theorem VE (s : St) : ∀ B : List Bool, pubL s (bs B) = some (bs B, s)
 | [] => rfl
 | b :: B => by
   simp only [bs, List.map_cons, pubL, Tx]
   rw [VE s B]
theorem VF (s : St) : ∀ B : List Bool, frzL s (bs B) = some (bs B, s)
 | [] => rfl
 | b :: B => by
   simp only [bs, List.map_cons, frzL, frz, Tx]
   rw [VF s B]
theorem VG : ∀ B : List Bool, ones (bs B) = true
 | [] => rfl
 | b :: B => by
   simp only [bs, List.map_cons, ones]
   exact VG B
theorem Qu : ∀ B : List Bool, AV.refs.go (bs B) = false
 | [] => rfl
 | b :: B => by
   simp only [bs, List.map_cons, AV.refs.go, AV.refs, Bool.false_or]
   exact Qu B
theorem bs_wk : ∀ (n : Nat) (B : List Bool), wkZ (List.replicate n .id) (bs B) = bs B
 | 0, B => by simp [wkZ]
 | n + 1, [] => by simp [wkZ]
 | n + 1, b :: B => by
   have := bs_wk n B
   simp only [bs, List.map_cons, List.replicate_succ, wkZ, wk] at this ⊢
   rw [this]
theorem bs_ld {B : List Bool} (h : s.box? id = some (.cells T (bs B))) (hn : B.length = n) : ldA s true n (.p id 0) = some (.agg (bs B)) := by
 have : cut (bs B) 0 n = some (bs B) := by
  have e : (bs B).take n = bs B := List.take_of_length_le (by simp; omega)
  have e2 : (bs B).length = n := by simpa using hn
  simp only [cut, List.drop_zero, e, e2, if_true]
 simp only [ldA, St.cells?, h, this, scal]
theorem bs_ld1 {B : List Bool} {i : Nat} {b : Bool} (h : s.box? id = some (.cells T (bs B))) (hi : B[i]? = some b) : ldA s false 1 (.p id i) = some (.b b) := by
 exact D4 h (by simp [hi])
theorem bs_st {B B' : List Bool} (h : s.box? id = some (.cells T (bs B'))) (hn : B.length = n) (hn' : B'.length = n) : stA s n (.p id 0) (.agg (bs B)) = some (s.setBox id (.cells T (bs B))) := by
 have h1 : (AV.agg (bs B)).cells = bs B := rfl
 have h2 : (bs B).length = n := by simpa using hn
 have h3 : over (bs B') 0 (bs B) = some (bs B) := by
  unfold over
  rw [if_pos (by simp; omega)]
  simp [hn, hn']
 simp only [stA, h, h1, h2, VG, and_self, if_true, h3, esc]
 have h4 : (AV.agg (bs B)).refs = false := by simp only [AV.refs]; exact Qu B
 rw [h4]
 rfl
theorem VH {B : List Bool} {i : Nat} (h : s.box? id = some (.cells T (bs B))) (hi : i < B.length) : stA s 1 (.p id i) (.b true) = some (s.setBox id (.cells T (bs (B.set i true)))) := by
 rw [T1 h rfl rfl (by simpa using hi)]
 have : (bs B).set i (.b true) = bs (B.set i true) := by simp [bs, List.map_set]
 rw [this]
 rfl
end
def F256 : List Bool := List.replicate 256 false
abbrev Z256 : List AV := bs F256
def B3 : List Bool := ((F256.set 47 true).set 0 true).set 10 true
theorem len0 : F256.length = 256 := by simp [F256]
theorem len1' : (F256.set 47 true).length = 256 := by simp [F256]
theorem len2' : ((F256.set 47 true).set 0 true).length = 256 := by simp [F256]
theorem VI : B3.length = 256 := by simp [B3, F256]
theorem b3_all : ((List.range 256).all fun c => B3[c]? == some (decide (c ∈ K3))) = true := by kernel_rfl
theorem b3_get {c : Nat} (h : c < 256) : B3[c]? = some (decide (c ∈ K3)) := by
 have := List.all_eq_true.1 b3_all c (by simpa using h)
 simpa using this
theorem ZE : BL.body =
 (.seq (.reg [⟨(some 2), .alloc 118 Z256, none⟩,
  ⟨(some 3), .mv (.c (.b false)), none⟩])
 (.seq (.seq (.reg [⟨(some 4), .mv (.c (.i .i64 0)), none⟩])
 (.blk 0 (.loop (.seq (.seq (.reg [⟨(some 6), .mv (.t 4), none⟩,
     ⟨(some 7), .mv (.t 0), none⟩,
     ⟨(some 8), .len 0 (.t 7), none⟩,
     ⟨(some 9), .bin .lss (.t 6) (.t 8), none⟩])
  (.cond (.t 9)
   .skip
   (.exit 0)))
  (.seq (.blk 1 (.seq (.reg [⟨(some 12), .mv (.t 0), none⟩,
     ⟨(some 13), .mv (.t 4), none⟩,
     ⟨(some 14), .ixS (.t 12) (.t 13), none⟩,
     ⟨(some 5), .mv (.t 14), none⟩])
   (.seq (.seq (.reg [⟨(some 15), .mv (.t 5), none⟩,
    ⟨(some 16), .bin .geq (.t 15) (.c (.i .u8 128)), none⟩])
   (.cond (.t 16)
    (.seq (.reg [⟨(some 17), .ld true 256 (.t 2), none⟩,
     ⟨none, .st 256 (.t 2) (.t 17), none⟩,
     ⟨(some 3), .mv (.c (.b false)), none⟩])
    .ret)
    .skip))
   (.reg [⟨(some 18), .mv (.t 5), none⟩,
    ⟨(some 19), .iaA 256 1 (.t 2) (.t 18), none⟩,
    ⟨none, .st 1 (.t 19) (.c (.b true)), none⟩]))))
  (.reg [⟨(some 10), .mv (.t 4), none⟩,
   ⟨(some 11), .bin .add (.t 10) (.c (.i .i64 1)), none⟩,
   ⟨(some 4), .mv (.t 11), none⟩]))))))
 (.seq (.reg [⟨(some 20), .ld true 256 (.t 2), none⟩,
  ⟨none, .st 256 (.t 2) (.t 20), none⟩,
  ⟨(some 3), .mv (.c (.b true)), none⟩])
 .ret))) := by rfl
theorem ZF : BZ.body =
 (.seq (.reg [⟨(some 4), .mv (.c (.i .i64 0)), none⟩])
 (.seq (.seq (.reg [⟨(some 11), .mv (.t 1), none⟩,
  ⟨(some 12), .bin .eql (.t 11) (.c (.s [])), none⟩])
 (.cond (.t 12)
  (.seq (.reg [⟨(some 4), .mv (.c (.i .i64 (-1))), none⟩])
  .ret)
  .skip))
 (.seq (.seq (.reg [⟨(some 13), .mv (.t 1), none⟩,
  ⟨(some 14), .len 0 (.t 13), none⟩,
  ⟨(some 15), .bin .eql (.t 14) (.c (.i .i64 1)), none⟩])
 (.cond (.t 15)
  (.seq (.reg [⟨(some 16), .mv (.t 1), none⟩,
   ⟨(some 17), .ixS (.t 16) (.c (.i .i64 0)), none⟩,
   ⟨(some 18), .cvI .i32 (.t 17), none⟩,
   ⟨(some 5), .mv (.t 18), none⟩])
  (.seq (.seq (.reg [⟨(some 19), .mv (.t 5), none⟩,
   ⟨(some 20), .bin .geq (.t 19) (.c (.i .i32 128)), none⟩])
  (.cond (.t 20)
   (.reg [⟨(some 5), .mv (.c (.i .i32 65533)), none⟩])
   .skip))
  (.seq (.reg [⟨(some 21), .mv (.t 0), none⟩,
   ⟨(some 22), .mv (.t 5), none⟩,
   ⟨(some 23), .call CB [(.t 21), (.t 22)], none⟩,
   ⟨(some 4), .mv (.t 23), none⟩])
  .ret)))
  .skip))
 (.seq (.seq (.reg [⟨(some 24), .mv (.t 0), none⟩,
  ⟨(some 25), .len 0 (.t 24), none⟩,
  ⟨(some 26), .call Bq [(.t 25)], none⟩])
 (.cond (.t 26)
  (.seq (.reg [⟨(some 28), .mv (.t 1), none⟩,
   ⟨(some 29), .call Co [(.t 28)], none⟩,
   ⟨(some 27), .mv (.t 29), none⟩,
   ⟨(some 30), .ext (.t 27) 0, none⟩,
   ⟨(some 31), .ext (.t 27) 1, none⟩,
   ⟨(some 6), .alloc 118 Z256, none⟩,
   ⟨none, .st 256 (.t 6) (.t 30), none⟩,
   ⟨(some 7), .mv (.t 31), none⟩])
  (.seq (.reg [⟨(some 32), .mv (.t 7), none⟩])
  (.cond (.t 32)
   (.seq (.seq (.reg [⟨(some 8), .mv (.c (.i .i64 0)), none⟩])
   (.blk 0 (.loop (.seq (.seq (.reg [⟨(some 33), .mv (.t 8), none⟩,
       ⟨(some 34), .mv (.t 0), none⟩,
       ⟨(some 35), .len 0 (.t 34), none⟩,
       ⟨(some 36), .bin .lss (.t 33) (.t 35), none⟩])
    (.cond (.t 36)
     .skip
     (.exit 0)))
    (.seq (.blk 1 (.seq (.reg [⟨(some 39), .mv (.t 0), none⟩,
       ⟨(some 40), .mv (.t 8), none⟩,
       ⟨(some 41), .ixS (.t 39) (.t 40), none⟩,
       ⟨(some 42), .call Br [(.t 6), (.t 41)], none⟩])
     (.cond (.t 42)
      (.seq (.reg [⟨(some 43), .mv (.t 8), none⟩,
       ⟨(some 4), .mv (.t 43), none⟩])
      .ret)
      .skip)))
    (.reg [⟨(some 37), .mv (.t 8), none⟩,
     ⟨(some 38), .bin .add (.t 37) (.c (.i .i64 1)), none⟩,
     ⟨(some 8), .mv (.t 38), none⟩]))))))
   (.seq (.reg [⟨(some 4), .mv (.c (.i .i64 (-1))), none⟩])
   .ret))
   .skip)))
  .skip))
 (.seq (.seq (.reg [⟨(some 44), .mv (.t 0), none⟩,
  ⟨(some 45), .siter (.t 44), none⟩])
 (.blk 2 (.loop (.seq (.reg [⟨(some 46), .snext (.t 45), none⟩,
     ⟨(some 47), .ext (.t 46) 0, none⟩])
  (.seq (.cond (.t 47)
   .skip
   (.exit 2))
  (.blk 3 (.seq (.reg [⟨(some 48), .ext (.t 46) 1, none⟩,
     ⟨(some 49), .ext (.t 46) 2, none⟩,
     ⟨(some 9), .mv (.t 48), none⟩,
     ⟨(some 10), .mv (.t 49), none⟩])
   (.seq (.reg [⟨(some 50), .mv (.t 1), none⟩,
    ⟨(some 51), .mv (.t 10), none⟩,
    ⟨(some 52), .call CB [(.t 50), (.t 51)], none⟩,
    ⟨(some 53), .bin .geq (.t 52) (.c (.i .i64 0)), none⟩])
   (.cond (.t 53)
    (.seq (.reg [⟨(some 54), .mv (.t 9), none⟩,
     ⟨(some 4), .mv (.t 54), none⟩])
    .ret)
    .skip)))))))))
 (.seq (.reg [⟨(some 4), .mv (.c (.i .i64 (-1))), none⟩])
 .ret)))))) := by rfl
theorem ZG : BL.cout = [.agg (List.replicate 256 .id), .id] := by rfl
theorem W3 (n : Nat) : Cg (.i .u8 (n : Int)) = some n := AK _ n
theorem mk_ok (s : St) (hw : Wf s) : (lim prog).call Co [.s K3] s = some (.tup [.agg (bs B3), .b true], s) := by
 refine fn_W Hb rfl rfl ?_
 rw [ZE, ZG]
 have hnb : s.enter.nb = s.nb := rfl
 have hwx : ∀ B, Wf (s.enter.new (.cells 118 (bs B))) := fun B => hw.enter.new _
 have hset : ∀ B B', (s.enter.new (.cells 118 (bs B))).setBox s.nb (.cells 118 (bs B')) = s.enter.new (.cells 118 (bs B')) := fun B B' => HE s.enter _ _
 have hb : ∀ B, (s.enter.new (.cells 118 (bs B))).box? s.nb = some (.cells 118 (bs B)) := fun B => Ay s.enter _
 have s1 := VH (i := 47) (hb F256) (by rw [len0]; decide)
 have s2 := VH (i := 0) (hb (F256.set 47 true)) (by rw [len1']; decide)
 have s3 := VH (i := 10) (hb ((F256.set 47 true).set 0 true)) (by rw [len2']; decide)
 rw [hset] at s1 s2 s3
 have la := bs_ld (hb B3) VI
 have st := bs_st (hb B3) VI VI
 rw [hset] at st
 have hres : BL.res = [(2, some (true, 256)), (3, none)] := rfl
 have hpl := VE (s.enter.new (.cells 118 (bs B3))) B3
 have hfl := VF (s.enter.new (.cells 118 (bs B3))) B3
 have ov : Over s (s.enter.new (.cells 118 (bs B3))) := (Over.enter s).new _
 rw [hres]
 simp only [go_sem, Az, AL, AM, AN, Au, KB_n, KB_x, Nat.reduceBEq, Nat.reduceAdd, Nat.reduceLT, Nat.reduceLeDiff, Nat.reduceEqDiff, reduceIte, Int.reduceEq, reduceCtorEq, hnb]
 refine CI (fun n e q => e.get 0 = .s K3 ∧ e.get 2 = .p s.nb 0 ∧ ∃ p : Nat, p + n = 3 ∧ e.get 4 = .i .i64 p ∧ q = s.enter.new (.cells 118 (bs ((K3.take p).foldl (fun B c => B.set c true) F256)))) ?_ 3 _ _ ?_
 · rintro n e q ⟨g0, g2, p, hp, g4, rfl⟩
   have : p = 0 ∨ p = 1 ∨ p = 2 ∨ p = 3 := by omega
   have hl : List.length K3 = 3 := rfl
   rcases this with rfl | rfl | rfl | rfl
   · have c1 : ((0 : Int) < 3) = True := by simp
     have c2 : ((128 : Int) ≤ 47) = False := by simp
     have hn : Cg (.i .u8 47) = some 47 := rfl
     have hw1 : IntKind.i64.wrap (0 + 1) = 1 := rfl
     have hx : ((K3.take 0).foldl (fun B c => B.set c true) F256) = F256 := rfl
     have hc0 : ((0 : Nat) : Int) = 0 := rfl
     rw [hx]
     simp only [go_sem, Az, AL, AM, AN, Au, KB_n, KB_x, Nat.reduceBEq, Nat.reduceAdd, Nat.reduceLT, Nat.reduceLeDiff, Nat.reduceEqDiff, reduceIte, Int.reduceEq, reduceCtorEq, g0, g2, g4, List.length_cons, List.length_nil, BT, Int.cast_ofNat_Int, hc0, c1, VB, c2, hn, Nat.mul_one, Nat.zero_add, s1, hw1]
     exact ⟨n - 1, by omega, 1, by omega, rfl, rfl⟩
   · have c1 : ((1 : Int) < 3) = True := by simp
     have c2 : ((128 : Int) ≤ 0) = False := by simp
     have hn : Cg (.i .u8 0) = some 0 := rfl
     have hx : ((K3.take 1).foldl (fun B c => B.set c true) F256) = F256.set 47 true := rfl
     have hc0 : ((1 : Nat) : Int) = 1 := rfl
     rw [hx]
     simp only [go_sem, Az, AL, AM, AN, Au, KB_n, KB_x, Nat.reduceBEq, Nat.reduceAdd, Nat.reduceLT, Nat.reduceLeDiff, Nat.reduceEqDiff, reduceIte, Int.reduceEq, reduceCtorEq, g0, g2, g4, List.length_cons, List.length_nil, BT, Int.cast_ofNat_Int, hc0, c1, Xg, c2, hn, Nat.mul_one, Nat.zero_add, s2, w4]
     exact ⟨n - 1, by omega, 2, by omega, rfl, rfl⟩
   · have c1 : ((2 : Int) < 3) = True := by simp
     have c2 : ((128 : Int) ≤ 10) = False := by simp
     have hn : Cg (.i .u8 10) = some 10 := rfl
     have hx : ((K3.take 2).foldl (fun B c => B.set c true) F256) = (F256.set 47 true).set 0 true := rfl
     have hc0 : ((2 : Nat) : Int) = 2 := rfl
     rw [hx]
     simp only [go_sem, Az, AL, AM, AN, Au, KB_n, KB_x, Nat.reduceBEq, Nat.reduceAdd, Nat.reduceLT, Nat.reduceLeDiff, Nat.reduceEqDiff, reduceIte, Int.reduceEq, reduceCtorEq, g0, g2, g4, List.length_cons, List.length_nil, BT, Int.cast_ofNat_Int, hc0, c1, Xh, c2, hn, Nat.mul_one, Nat.zero_add, s3, w5]
     exact ⟨n - 1, by omega, 3, by omega, rfl, rfl⟩
   · have c1 : ((3 : Int) < 3) = False := by simp
     have hx : ((K3.take 3).foldl (fun B c => B.set c true) F256) = B3 := rfl
     have hc0 : ((3 : Nat) : Int) = 3 := rfl
     rw [hx]
     simp only [go_sem, Az, AL, AM, AN, Au, KB_n, KB_x, Nat.reduceBEq, Nat.reduceAdd, Nat.reduceLT, Nat.reduceLeDiff, Nat.reduceEqDiff, reduceIte, Int.reduceEq, reduceCtorEq, g0, g2, g4, List.length_cons, List.length_nil, BT, Int.cast_ofNat_Int, hc0, c1, la, hpl, st, hfl, frz]
     refine AI ov ?_ ?_
     · simp [BW, AV.refs, AV.refs.go, Qu]
     · simp only [wkZ]
       have e1 : wk (.agg (List.replicate 256 .id)) (.agg (bs B3)) = .agg (bs B3) := by
        rw [wk, bs_wk]
       rw [e1]
       rfl
 · simp only [go_sem, Az, AL, AM, AN, Au, KB_n, KB_x, Nat.reduceBEq, Nat.reduceAdd, Nat.reduceLT, Nat.reduceLeDiff, Nat.reduceEqDiff, reduceIte, Int.reduceEq, reduceCtorEq]
   exact ⟨rfl, 0, by omega, rfl, rfl⟩
theorem Qv {s : St} {id T : Nat} {B : List Bool} (h : s.box? id = some (.cells T (bs B))) {c : Nat} (hc : c < 256) {b : Bool} (hb : B[c]? = some b) : (lim prog).call Br [.p id 0, .i .u8 (c : Int)] s = some (.b b, s) := by
 refine fn_W F3 rfl rfl ?_
 have hl : ldA s.enter false 1 (.p id c) = some (.b b) := bs_ld1 (s := s.enter) h hb
 have hlt : (c < 256) = True := by simp [hc]
 simp only [BS, go_sem, Az, AL, AM, AN, Au, KB_n, KB_x, Nat.reduceBEq, Nat.reduceAdd, Nat.reduceLT, Nat.reduceLeDiff, Nat.reduceEqDiff, reduceIte, Int.reduceEq, reduceCtorEq, W3, hlt, Nat.mul_one, Nat.zero_add, hl]
 exact AI (Over.enter s) rfl rfl
end Go.Proofs.YtbfgoopcnkeblaaGreat

namespace Go.Proofs.YtbfgoopcnkeblaaGreat
open Go.Proofs.YtbfgoopcnkeblaaGreat.Am
theorem W5 (s : ByteArray) (pos : Nat) (h : pos < s.size) (ha : 128 ≤ (s.get! (pos + 0)).toNat) : pos + (Utf8.decode s pos).2 ≤ s.size ∧ ∀ k, k < (Utf8.decode s pos).2 → 128 ≤ (s.get! (pos + k)).toNat := by
 have hn : ¬ (s.get! (pos + 0)).toNat < 128 := by omega
 simp only [Utf8.decode, hn, if_false]
 split
 · rename_i h1
   simp only [Bool.and_eq_true, beq_iff_eq, decide_eq_true_eq] at h1
   split
   · refine ⟨by simp only; omega, fun k hk => ?_⟩
     have : k = 0 ∨ k = 1 := by simp only at hk; omega
     rcases this with rfl | rfl <;> omega
   · refine ⟨by simp only; omega, fun k hk => ?_⟩
     have : k = 0 := by simp only at hk; omega
     subst this; omega
 · split
   · rename_i h1
     simp only [Bool.and_eq_true, beq_iff_eq, decide_eq_true_eq] at h1
     split
     · refine ⟨by simp only; omega, fun k hk => ?_⟩
       have : k = 0 ∨ k = 1 ∨ k = 2 := by simp only at hk; omega
       rcases this with rfl | rfl | rfl <;> omega
     · refine ⟨by simp only; omega, fun k hk => ?_⟩
       have : k = 0 := by simp only at hk; omega
       subst this; omega
   · split
     · rename_i h1
       simp only [Bool.and_eq_true, beq_iff_eq, decide_eq_true_eq] at h1
       split
       · refine ⟨by simp only; omega, fun k hk => ?_⟩
         have : k = 0 ∨ k = 1 ∨ k = 2 ∨ k = 3 := by simp only at hk; omega
         rcases this with rfl | rfl | rfl | rfl <;> omega
       · refine ⟨by simp only; omega, fun k hk => ?_⟩
         have : k = 0 := by simp only at hk; omega
         subst this; omega
     · refine ⟨by simp only; omega, fun k hk => ?_⟩
       have : k = 0 := by simp only at hk; omega
       subst this; omega
theorem bytes_get {l : List Nat} (hl : ∀ n ∈ l, n < 256) {i : Nat} (h : i < l.length) : ((⟨(l.map UInt8.ofNat).toArray⟩ : ByteArray).get! i).toNat = l[i] := by
 have h1 : i < (l.map UInt8.ofNat).toArray.size := by simpa using h
 have : (⟨(l.map UInt8.ofNat).toArray⟩ : ByteArray).get! i = UInt8.ofNat l[i] := by
  show (l.map UInt8.ofNat).toArray[i]! = _
  rw [getElem!_pos _ i h1]
  simp
 rw [this, u8N (hl _ (List.getElem_mem h))]
theorem bytes_size (l : List Nat) : (⟨(l.map UInt8.ofNat).toArray⟩ : ByteArray).size = l.length := by
 show (l.map UInt8.ofNat).toArray.size = _
 simp
theorem W6 {l : List Nat} (hl : ∀ n ∈ l, n < 256) {pos : Nat} (h : pos < l.length) (hc : 128 ≤ l[pos]) :
    ∃ r w, Utf8.decode ⟨(l.map UInt8.ofNat).toArray⟩ pos = (r, w) ∧ 128 ≤ r ∧ r ≤ 2147483647 ∧ 1 ≤ w ∧ pos + w ≤ l.length ∧ ∀ k (hk : k < l.length), pos ≤ k → k < pos + w → 128 ≤ l[k] := by
 have hs := bytes_size l
 have hg := bytes_get hl h
 have hps : pos < (⟨(l.map UInt8.ofNat).toArray⟩ : ByteArray).size := by rw [hs]; exact h
 have hge := get_at (⟨(l.map UInt8.ofNat).toArray⟩ : ByteArray) pos hps
 have ha : 128 ≤ ((⟨(l.map UInt8.ofNat).toArray⟩ : ByteArray).get! (pos + 0)).toNat := by rw [Nat.add_zero, hg]; exact hc
 have h1 := decode_high (⟨(l.map UInt8.ofNat).toArray⟩ : ByteArray) pos hps (by rw [← hge]; exact ha)
 have h2 := decode_le (⟨(l.map UInt8.ofNat).toArray⟩ : ByteArray) pos
 have h3 := W5 (⟨(l.map UInt8.ofNat).toArray⟩ : ByteArray) pos hps ha
 rw [hs] at h3
 obtain ⟨⟨r, w⟩, hrw⟩ : ∃ x, Utf8.decode (⟨(l.map UInt8.ofNat).toArray⟩ : ByteArray) pos = x := ⟨_, rfl⟩
 rw [hrw] at h1 h2 h3
 simp only at h1 h2 h3
 refine ⟨r, w, hrw, h1.1, h2, h1.2, h3.1, fun k hk h4 h5 => ?_⟩
 have h6 := h3.2 (k - pos) (by omega)
 rw [show pos + (k - pos) = k by omega, bytes_get hl hk] at h6
 exact h6
def anyK (l : List Nat) : Bool := l.any fun c => decide (c ∈ K3)
theorem VJ {r : Int} (h : 128 ≤ r) : Pz r = -1 := by unfold Pz; rw [if_neg (by omega)]
theorem NK (c : Nat) (h : c < 128) : (0 ≤ Pz (c : Int)) ↔ c ∈ K3 := by
 unfold Pz
 rw [if_pos (by omega), Int.toNat_natCast]
 have := Rx (c := c) (l := K3) (n := 0)
 constructor
 · intro h1
   by_cases h2 : c ∈ K3
   · exact h2
   · exact absurd (this.2 h2) (by omega)
 · intro h1
   by_cases h2 : idxB c 0 K3 < 0
   · exact absurd h1 (this.1 h2)
   · omega
theorem VK {l : List Nat} {i : Nat} (h : i < l.length) (hm : l[i] ∈ K3) : anyK l = true := by
 unfold anyK
 rw [List.any_eq_true]
 exact ⟨_, List.getElem_mem h, by simpa using hm⟩
theorem NL {l : List Nat} (h : ∀ i (hi : i < l.length), l[i] ∉ K3) : anyK l = false := by
 unfold anyK
 rw [List.any_eq_false]
 intro x hx
 obtain ⟨i, hi, rfl⟩ := List.mem_iff_getElem.1 hx
 simpa using h i hi
theorem Ko (n : Int) (s : St) : (lim prog).call Bq [.i .i64 n] s = some (.b (decide (8 < n)), s) := by
 refine fn_W F2 rfl rfl ?_
 simp only [BR, go_sem, Az, AL, AM, AN, Au, KB_n, KB_x, Nat.reduceBEq, Nat.reduceAdd, Nat.reduceLT, Nat.reduceLeDiff, Nat.reduceEqDiff, reduceIte, Int.reduceEq, reduceCtorEq]
 exact AI (Over.enter s) rfl rfl
def IAP (l : List Nat) (s : St) (r : AV) (s' : St) : Prop := s' = s ∧ ∃ z : Int, r = .i .i64 z ∧ (decide (0 ≤ z)) = anyK l
theorem KH_i {s s2 : St} {l : List Nat} {z : Int} (hov : Over s s2) (h : decide (0 ≤ z) = anyK l) : KH s [CT.id] (IAP l s) (some ([.i .i64 z], s2)) := by
 refine ⟨_, _, rfl, ?_⟩
 show IAP l s (.i .i64 z) (leave s s2 (.i .i64 z))
 rw [hov.leave rfl]
 exact ⟨rfl, z, rfl, h⟩
theorem Qw (l : List Nat) (hl : Txt l) (s : St) (hw : Wf s) : ∃ r s', (lim prog).call Ed [.s l, .s K3] s = some (r, s') ∧ IAP l s r s' := by
 refine fn_G (Post := IAP l s) JY rfl rfl ?_
 have hlen := hl.len
 have k1 : ((K3 : List Nat) = []) = False := by simp
 have k2 : ((3 : Int) = 1) = False := by simp
 have hkl : List.length K3 = 3 := rfl
 have ia_cin : BZ.cin = [.id, .id] := rfl
 have ia_res : BZ.res = [(4, none)] := rfl
 have ia_cout : BZ.cout = [.id] := rfl
 rw [ZF, ia_cin, ia_res, ia_cout]
 by_cases h8 : (8 : Int) < (l.length : Int)
 · have hmk := mk_ok s.enter hw.enter
   have hb0 : (s.enter.new (.cells 118 Z256)).box? s.enter.nb = some (.cells 118 (bs F256)) := Ay s.enter _
   have st := bs_st hb0 VI len0
   rw [HE] at st
   obtain ⟨s1, hs1⟩ : ∃ s1, s.enter.new (.cells 118 (bs B3)) = s1 := ⟨_, rfl⟩
   have hb1 : s1.box? s.enter.nb = some (.cells 118 (bs B3)) := by rw [← hs1]; exact Ay s.enter _
   have ov1 : Over s s1 := by rw [← hs1]; exact (Over.enter s).new _
   rw [hs1] at st
   have hcells : (AV.agg (bs B3)).cells.length = 256 := by show (bs B3).length = 256; simpa using VI
   simp only [go_sem, Az, AL, AM, AN, Au, KB_n, KB_x, Nat.reduceBEq, Nat.reduceAdd, Nat.reduceLT, Nat.reduceLeDiff, Nat.reduceEqDiff, reduceIte, Int.reduceEq, reduceCtorEq, BT, hkl, Int.cast_ofNat_Int, k1, k2, Ko, h8, hmk, st]
   refine CI (fun n e q => ∃ i : Nat, i + n = l.length ∧ q = s1 ∧ e.get 0 = .s l ∧ e.get 6 = .p s.enter.nb 0 ∧ e.get 8 = .i .i64 i ∧ ∀ (j : Nat) (hj : j < l.length), j < i → l[j] ∉ K3) ?_ l.length _ _ ?_
   · rintro n e q ⟨i, hi, rfl, g0, g6, g8, hno⟩
     simp only [go_sem, Az, AL, AM, AN, Au, KB_n, KB_x, Nat.reduceBEq, Nat.reduceAdd, Nat.reduceLT, Nat.reduceLeDiff, Nat.reduceEqDiff, reduceIte, Int.reduceEq, reduceCtorEq, g0, g8, BT]
     refine M8 (fun hlt => ?_) (fun hge => ?_)
     · have hlt : i < l.length := by omega
       have hget : l[i]? = some l[i] := List.getElem?_eq_getElem hlt
       have h256 := hl.lt l[i] (List.getElem_mem hlt)
       have hc := Qv hb1 h256 (b3_get h256)
       simp only [go_sem, Az, AL, AM, AN, Au, KB_n, KB_x, Nat.reduceBEq, Nat.reduceAdd, Nat.reduceLT, Nat.reduceLeDiff, Nat.reduceEqDiff, reduceIte, Int.reduceEq, reduceCtorEq, g0, g6, g8, VD, hget, BT, hc]
       refine M8 (fun hm => ?_) (fun hm => ?_)
       · exact KH_i ov1 (by rw [VK hlt hm]; simp)
       · simp only [go_sem, Az, AL, AM, AN, Au, KB_n, KB_x, Nat.reduceBEq, Nat.reduceAdd, Nat.reduceLT, Nat.reduceLeDiff, Nat.reduceEqDiff, reduceIte, Int.reduceEq, reduceCtorEq, Ax (show i + 1 < 2 ^ 63 by omega), g0, g6, g8]
         refine ⟨n - 1, by omega, i + 1, by omega, rfl, fun j hj hji => ?_⟩
         by_cases hje : j = i
         · subst hje; exact hm
         · exact hno j hj (by omega)
     · exact KH_i ov1 (by rw [NL fun j hj => hno j hj (by omega)]; decide)
   · simp only [go_sem, Az, AL, AM, AN, Au, KB_n, KB_x, Nat.reduceBEq, Nat.reduceAdd, Nat.reduceLT, Nat.reduceLeDiff, Nat.reduceEqDiff, reduceIte, Int.reduceEq, reduceCtorEq]
     exact ⟨0, by omega, rfl, fun j hj h => by omega⟩
 · have hsi : ∀ p p', (s.enter.new (.siter l p)).setBox s.enter.nb (.siter l p') = s.enter.new (.siter l p') := fun p p' => HE _ _ _
   simp only [go_sem, Az, AL, AM, AN, Au, KB_n, KB_x, Nat.reduceBEq, Nat.reduceAdd, Nat.reduceLT, Nat.reduceLeDiff, Nat.reduceEqDiff, reduceIte, Int.reduceEq, reduceCtorEq, BT, hkl, Int.cast_ofNat_Int, k1, k2, Ko, h8]
   refine CI (fun n e q => ∃ i : Nat, i + n = l.length ∧ q = s.enter.new (.siter l i) ∧ e.get 1 = .s K3 ∧ e.get 45 = .p s.enter.nb 0 ∧ ∀ (j : Nat) (hj : j < l.length), j < i → l[j] ∉ K3) ?_ l.length _ _ ?_
   · rintro n e q ⟨i, hi, rfl, g1, g45, hno⟩
     have ov1 : ∀ p, Over s (s.enter.new (.siter l p)) := fun p => (Over.enter s).new _
     by_cases hlt : i < l.length
     · have hget : l[i]? = some l[i] := List.getElem?_eq_getElem hlt
       by_cases h128 : l[i] < 128
       · have h128' : (l[i] < 128) = True := by simp [h128]
         have hr := Kn (l[i] : Int) (by omega) (by omega)
         simp only [go_sem, Az, AL, AM, AN, Au, KB_n, KB_x, Nat.reduceBEq, Nat.reduceAdd, Nat.reduceLT, Nat.reduceLeDiff, Nat.reduceEqDiff, reduceIte, Int.reduceEq, reduceCtorEq, g1, g45, hget, h128', BT, hsi, hr]
         refine M8 (fun hm => ?_) (fun hm => ?_)
         · exact KH_i (ov1 _) (by rw [VK hlt ((NK _ h128).1 hm)]; simp)
         · trace_state
           refine ⟨n - 1, by omega, i + 1, by omega, rfl, fun j hj hji => ?_⟩
           by_cases hje : j = i
           · subst hje; exact fun hh => hm ((NK _ h128).2 hh)
           · exact hno j hj (by omega)
       · have h128' : (l[i] < 128) = False := by simp [h128]
         obtain ⟨r, w, e1, e2, e3, e4, e5, e6⟩ := W6 hl.lt hlt (by omega)
         have hr := Kn (r : Int) (by omega) (by omega)
         rw [VJ (by omega)] at hr
         have hm1 : ((0 : Int) ≤ -1) = False := by simp
         simp only [go_sem, Az, AL, AM, AN, Au, KB_n, KB_x, Nat.reduceBEq, Nat.reduceAdd, Nat.reduceLT, Nat.reduceLeDiff, Nat.reduceEqDiff, reduceIte, Int.reduceEq, reduceCtorEq, g1, g45, hget, h128', BT, hsi, e1, hr, hm1]
         refine ⟨n - w, by omega, i + w, by omega, rfl, fun j hj hji => ?_⟩
         by_cases hje : j < i
         · exact hno j hj hje
         · have := e6 j hj (by omega) hji
           simp only [List.mem_cons, List.not_mem_nil, or_false]
           omega
     · have hget : l[i]? = none := List.getElem?_eq_none (by omega)
       simp only [go_sem, Az, AL, AM, AN, Au, KB_n, KB_x, Nat.reduceBEq, Nat.reduceAdd, Nat.reduceLT, Nat.reduceLeDiff, Nat.reduceEqDiff, reduceIte, Int.reduceEq, reduceCtorEq, g1, g45, hget]
       exact KH_i (ov1 _) (by rw [NL fun j hj => hno j hj (by omega)]; decide)
   · simp only [go_sem, Az, AL, AM, AN, Au, KB_n, KB_x, Nat.reduceBEq, Nat.reduceAdd, Nat.reduceLT, Nat.reduceLeDiff, Nat.reduceEqDiff, reduceIte, Int.reduceEq, reduceCtorEq]
     exact ⟨0, by omega, rfl, fun j hj h => by omega⟩
theorem Mo (l : List Nat) (hl : Txt l) (s : St) (hw : Wf s) : (lim prog).call Dn [.s l, .s K3] s = some (.b (anyK l), s) := by
 refine fn_W Ht rfl rfl ?_
 obtain ⟨r, s', h, rfl, z, rfl, hz⟩ := Qw l hl s.enter hw.enter
 simp only [CK, go_sem, Az, AL, AM, AN, Au, KB_n, KB_x, Nat.reduceBEq, Nat.reduceAdd, Nat.reduceLT, Nat.reduceLeDiff, Nat.reduceEqDiff, reduceIte, Int.reduceEq, reduceCtorEq, h]
 exact AI (Over.enter s) rfl (by rw [hz]; rfl)
def HQ (l : List Nat) : Bool := decide (l ≠ []) && (decide (l.length ≤ 64) && (decide (l ≠ [46]) && (decide (l ≠ [46, 46]) && !anyK l)))
theorem Qx (l : List Nat) (hl : Txt l) (s : St) (hw : Wf s) : (lim prog).call Fx [.s l] s = some (.b (HQ l), s) := by
 refine fn_W Qh rfl rfl ?_
 have hc := Mo l hl s.enter hw.enter
 have hk : ∀ b, b = HQ l → KR s [CT.id] (.b (HQ l)) (some ([.b b], s.enter)) := fun b hb => AI (Over.enter s) rfl (by rw [hb]; rfl)
 have h64i : ∀ h : l.length ≤ 64, (((l.length : Nat) : Int) ≤ 64) = True := fun h => by simp; omega
 by_cases h1 : l = []
 · have h1' : (l ≠ []) = False := by simp [h1]
   simp only [DN, go_sem, Az, AL, AM, AN, Au, KB_n, KB_x, Nat.reduceBEq, Nat.reduceAdd, Nat.reduceLT, Nat.reduceLeDiff, Nat.reduceEqDiff, reduceIte, Int.reduceEq, reduceCtorEq, h1']
   exact hk _ (by simp [HQ, h1])
 · have h1' : (l ≠ []) = True := by simp [h1]
   by_cases h2 : l.length ≤ 64
   · have h2' := h64i h2
     by_cases h3 : l = [46]
     · have h3' : (l ≠ [46]) = False := by simp [h3]
       simp only [DN, go_sem, Az, AL, AM, AN, Au, KB_n, KB_x, Nat.reduceBEq, Nat.reduceAdd, Nat.reduceLT, Nat.reduceLeDiff, Nat.reduceEqDiff, reduceIte, Int.reduceEq, reduceCtorEq, BT, h1', h2', h3']
       exact hk _ (by simp [HQ, h3])
     · have h3' : (l ≠ [46]) = True := by simp [h3]
       by_cases h4 : l = [46, 46]
       · have h4' : (l ≠ [46, 46]) = False := by simp [h4]
         simp only [DN, go_sem, Az, AL, AM, AN, Au, KB_n, KB_x, Nat.reduceBEq, Nat.reduceAdd, Nat.reduceLT, Nat.reduceLeDiff, Nat.reduceEqDiff, reduceIte, Int.reduceEq, reduceCtorEq, BT, h1', h2', h3', h4']
         exact hk _ (by simp [HQ, h4])
       · have h4' : (l ≠ [46, 46]) = True := by simp [h4]
         simp only [DN, go_sem, Az, AL, AM, AN, Au, KB_n, KB_x, Nat.reduceBEq, Nat.reduceAdd, Nat.reduceLT, Nat.reduceLeDiff, Nat.reduceEqDiff, reduceIte, Int.reduceEq, reduceCtorEq, BT, h1', h2', h3', h4', hc]
         exact hk _ (by simp [HQ, h1, h2, h3, h4])
   · have h2' : (((l.length : Nat) : Int) ≤ 64) = False := by simp; omega
     simp only [DN, go_sem, Az, AL, AM, AN, Au, KB_n, KB_x, Nat.reduceBEq, Nat.reduceAdd, Nat.reduceLT, Nat.reduceLeDiff, Nat.reduceEqDiff, reduceIte, Int.reduceEq, reduceCtorEq, BT, h1', h2']
     exact hk _ (by simp [HQ, h2])

mutual
def C8 : ND → Bool
 | .mk k t ns ks => if k = 1 ∨ k = 3 then decide (ns = []) && (decide (ks.length = 0) && (decide (t.length ≤ 256) && (!t.contains 0 && (decide (k = 1) || decide (t ≠ []))))) else
   if k = 2 then decide (t = []) && (decide (ns.length = ks.length) && Eg none ns ks) else false
def Eg : Option (List Nat) → List (List Nat) → List ND → Bool
 | _, _, [] => true
 | _, [], _ :: _ => true
 | p, s :: ns, k :: ks => HQ s && ((match p with | none => true | some q => ltN q s) && (C8 k && Eg (some s) ns ks))
end
theorem idxB0 : ∀ (t : List Nat) (n : Nat), (decide (idxB 0 n t < 0)) = !t.contains 0
 | [], n => by simp [idxB]
 | a :: t, n => by
   cases h : Nat.beq a 0 with
   | true =>
     have : a = 0 := by simpa using h
     subst this
     simp [idxB]
   | false =>
     have h1 : a ≠ 0 := by intro hh; subst hh; simp at h
     simp only [idxB, h, cond_false, idxB0 t (n + 1)]
     have : (a == 0) = false := by simp [h1]
     simp [List.contains_cons, h1, eq_comm]
theorem Kl (x y : List Nat) : Am.binOp .leq (.s x) (.s y) = some (.b (ltN x y || beqN x y)) := by simp [Am.binOp, QM]
theorem Ja : ∀ (a b : List Nat), (ltN a b || beqN a b) = !ltN b a
 | [], [] => rfl
 | [], _ :: _ => rfl
 | _ :: _, [] => rfl
 | a :: x, b :: y => by
   have := Ja x y
   simp only [ltN, beqN]
   rcases Nat.lt_trichotomy a b with h | h | h
   · have e1 : Nat.blt a b = true := by rw [Nat.blt_eq]; exact h
     have e2 : Nat.blt b a = false := by rw [Bool.eq_false_iff]; intro hh; rw [Nat.blt_eq] at hh; omega
     have e3 : Nat.beq b a = false := by rw [Bool.eq_false_iff]; intro hh; rw [Nat.beq_eq] at hh; omega
     simp [e1, e2, e3]
   · subst h
     have e1 : Nat.blt a a = false := by rw [Bool.eq_false_iff]; intro hh; rw [Nat.blt_eq] at hh; omega
     simp only [e1, Nat.beq_refl, Bool.true_and, Bool.false_or, this]
   · have e1 : Nat.blt b a = true := by rw [Nat.blt_eq]; exact h
     have e2 : Nat.blt a b = false := by rw [Bool.eq_false_iff]; intro hh; rw [Nat.blt_eq] at hh; omega
     have e3 : Nat.beq a b = false := by rw [Bool.eq_false_iff]; intro hh; rw [Nat.beq_eq] at hh; omega
     simp [e1, e2, e3]
theorem KP : ∀ (p : Option (List Nat)) (ns : List (List Nat)) (ks : List ND) (s : List Nat) (k : ND), ns.length = ks.length →
    Eg p (ns ++ [s]) (ks ++ [k]) = (Eg p ns ks && (HQ s && ((match ns.getLast?.or p with | none => true | some q => ltN q s) && C8 k)))
 | p, [], [], s, k, _ => by
   simp only [List.nil_append, Eg, Bool.and_true, Bool.true_and, List.getLast?_nil, Option.none_or]
 | p, a :: ns, b :: ks, s, k, h => by
   simp only [List.length_cons, Nat.add_right_cancel_iff] at h
   simp only [List.cons_append, Eg, KP (some a) ns ks s k h, Bool.and_assoc]
   have : (a :: ns).getLast?.or p = (ns.getLast?.or (some a)) := by
    cases ns with
    | nil => rfl
    | cons c ns =>
      cases hns : (c :: ns).getLast? with
      | none => simp at hns
      | some v => rw [List.getLast?_cons_cons, hns]; rfl
   rw [this]
 | _, [], _ :: _, _, _, h => by simp at h
 | _, _ :: _, [], _, _, h => by simp at h
theorem KT (n : ND) : ∀ (p : Option (List Nat)) (ns : List (List Nat)) (ks : List ND) (i : Nat), Eg p ns ks = true → Eg p (ns.take i) (ks.take i) = true
 | _, _, _, 0, _ => by simp [Eg]
 | _, _, [], i + 1, _ => by simp [Eg]
 | _, [], _ :: _, i + 1, _ => by simp [Eg]
 | p, s :: ns, k :: ks, i + 1, h => by
   simp only [List.take_succ_cons, Eg, Bool.and_eq_true] at h ⊢
   exact ⟨h.1, h.2.1, h.2.2.1, KT n (some s) ns ks i h.2.2.2⟩

def segs : List Nat → List Nat → List (List Nat)
 | cur, [] => [cur]
 | cur, c :: l => if c = 47 then cur :: segs [] l else segs (cur ++ [c]) l
def splitL (l : List Nat) : List (List Nat) := segs [] l
theorem NM {s s1 : St} {v : AV} (h : v.refs = true) : leave s s1 v = { s1 with lo := min s.lo s1.lo } := by
 unfold Am.leave
 rw [h, Bool.not_true, Bool.and_false, if_neg (by simp)]

def stepOk (x : List Nat) : Bool := decide (x ≠ []) && decide (x ≠ [46])
def cnt (l : List Nat) (j : Nat) : Nat := (((splitL l).take j).filter stepOk).length

/-! ### Clean -/



theorem So {es t0 T : Nat} {s : St} {a : AV} {xs : List AV} (hr : RowP es t0 s T a xs) : (a = .nsl ∧ xs = []) ∨ ∃ k v, a = .sl es xs (.tok k v) := by
 rcases hr with h | ⟨k, v, t, rfl, _⟩
 · exact .inl h
 · exact .inr ⟨k, v, rfl⟩

theorem Yz : (1 ≤ 1) = True := by simp
theorem Pf (s : St) : (lim prog).call Ad [tx []] s = some (.ws true 1 [], { s with lo := min s.lo s.nb }) := by
 rw [E8]
 unfold GY
 rw [Df]
 have h1 : wkZ AP.cin [tx []] = [.ws false 1 []] := by
  simp [AP, wkZ, wk, wkM]
 have h2 : both AP [.ws false 1 []] = some (.ws true 1 []) := by rfl
 have h3 : Nat.ble [tx []].length AP.ntmps = true := rfl
 have h4 : AP.prim = none := rfl
 simp only [h4, h3, h1, h2]
theorem SW (x : List Nat) (L : List (List Nat)) (hL : (x :: L).length < 2 ^ 38) (s : St) :
    (lim prog).call Ad [tx (x :: L)] s = some (.sl 1 ((x :: L).map .s) (.tok s.nt 0), { s.newTok (x :: L).length (some 9) with lo := min s.lo s.nb }) := by
 have h1 : wkZ AP.cin [tx (x :: L)] = [tx (x :: L)] := by
  have := (X9 (x :: L)).wk
  simp only [AP, wkZ, this]
 obtain ⟨r, s', hc, rfl, rfl⟩ := fn_K (t := 2) (s := s) (args := [tx (x :: L)]) (Post := fun r s' => r = .sl 1 ((x :: L).map .s) (.tok s.nt 0) ∧ s' = { s.newTok (x :: L).length (some 9) with lo := min s.lo s.nb }) Df rfl rfl rfl (by rw [h1]; rfl) (by
  rw [h1]
  have heq : eqS (tx (x :: L)) .nsl = some false := rfl
  have ha : appA s.enter 1 9 (.sl 1 [] .full) (tx (x :: L)) = some (.sl 1 ((x :: L).map .s) (.tok s.nt 0), s.enter.newTok (x :: L).length (some 9)) := by
   simp only [tx, List.map_cons, appA, elems, if_true, List.nil_append, List.length_nil, Nat.zero_add, true_and]
   rw [if_pos (by simpa using hL)]
   simp [St.enter]
  have hal : Ar 1 [] = true := rfl
  simp only [AP, go_sem, Az, AL, AM, AN, Au, KB_n, KB_x, Nat.reduceBEq, Nat.reduceAdd, Nat.reduceLT, Nat.reduceLeDiff, Nat.reduceEqDiff, reduceIte, Int.reduceEq, reduceCtorEq, heq, hal, Yz, ha, KK_n, KK_r]
  rfl)
 exact hc
theorem OG {s0 s : St} {n : En} {R : List RA} {B : List (Nat × Box)} (H : Hp s0 s n R B) (L : List (List Nat)) (hL : L.length < 2 ^ 38) :
    ∃ r s', (lim prog).call Ad [tx L] s = some (r, s') ∧ Hp s0 s' n (⟨1, 9, r, L.map .s, true⟩ :: R) B ∧ s'.nb = s.nb := by
 have hlo := H.lo
 have h1 := H.over.lo
 have h2 := H.over.nb
 cases L with
 | nil =>
   refine ⟨_, _, Pf s, ?_, rfl⟩
   exact (H.setLo (m := min s.lo s.nb) (by omega) (by omega)).addFull 1 9 true .ws
 | cons x L =>
   refine ⟨_, _, SW x L hL s, ?_, rfl⟩
   have := H.newTok 1 9 ((x :: L).map .s)
   rw [List.length_map] at this
   exact this.setLo (m := min s.lo s.nb) (by omega) (by omega)
theorem Un {s0 s : St} {n : En} {R : List RA} {B : List (Nat × Box)} (H : Hp s0 s n R B) (L : List (List Nat)) (hL : L.length < 2 ^ 38) :
    ∃ r s1 a s', (lim prog).call Ad [tx L] s = some (r, s1) ∧ QO false s1 r = some (a, s') ∧ CN 1 a (L.map .s) ∧ Hp s0 s' n R B ∧ s'.nb = s.nb := by
 obtain ⟨r, s1, h1, H1, e1⟩ := OG H L hL
 obtain ⟨a, s', h2, h3, H2, e2⟩ := H1.pub 0 rfl
 refine ⟨r, s1, a, s', h1, WZ h2 h3, h3, ?_, by omega⟩
 exact H2.dropR

set_option maxHeartbeats 2000000
attribute [local irreducible] W WO WE WQ WD Tr.get Tr.set
def zx (L : List Int) : AV := .ws false 1 (L.map iv)
def FT.cells (f : FT) : List AV := [.b f.known, .i .u8 (f.kind : Nat), tx f.names, zx f.kids, .i .i64 f.rest, .i .i64 f.beside]
def FT.av (f : FT) : AV := .agg f.cells
def fx (l : List FT) : AV := .ws false 6 (l.map FT.av)
structure FT.Ok (f : FT) : Prop where
 kind : f.kind < 256
 names : ∀ l ∈ f.names, Txt l ∧ l.length < 2 ^ 62
 nlen : f.names.length < 2 ^ 34
 klen : f.kids.length < 2 ^ 34
def FT.isDir (f : FT) : Bool := f.known && decide (f.kind = 2)
def ascN : Option (List Nat) → List (List Nat) → Bool
 | _, [] => true
 | p, s :: ns => HQ s && ((match p with | none => true | some q => ltN q s) && ascN (some s) ns)
theorem Pj : ∀ (p : Option (List Nat)) (ns : List (List Nat)) (s : List Nat),
    ascN p (ns ++ [s]) = (ascN p ns && (HQ s && (match ns.getLast?.or p with | none => true | some q => ltN q s)))
 | p, [], s => by
   simp only [List.nil_append, ascN, Bool.and_true, Bool.true_and, List.getLast?_nil, Option.none_or]
 | p, a :: ns, s => by
   simp only [List.cons_append, ascN, Pj (some a) ns s, Bool.and_assoc]
   have : (a :: ns).getLast?.or p = (ns.getLast?.or (some a)) := by
    cases ns with
    | nil => rfl
    | cons c ns =>
      cases hns : (c :: ns).getLast? with
      | none => simp at hns
      | some v => rw [List.getLast?_cons_cons, hns]; rfl
   rw [this]
theorem Pk : ∀ (p : Option (List Nat)) (ns : List (List Nat)) (i : Nat), ascN p ns = true → ascN p (ns.take i) = true
 | _, _, 0, _ => by simp [ascN]
 | _, [], i + 1, _ => by simp [ascN]
 | p, s :: ns, i + 1, h => by
   simp only [List.take_succ_cons, ascN, Bool.and_eq_true] at h ⊢
   exact ⟨h.1, h.2.1, Pk (some s) ns i h.2.2⟩
def FT.restB (f : FT) : Bool := if f.rest = 2 then decide (0 ≤ f.beside) && decide (f.beside ≤ (f.names.length : Int)) else (decide (f.rest = 0) || decide (f.rest = 1)) && decide (f.beside = 0)
def FT.bad (f : FT) : Bool := decide (3 < f.kind) || ((!f.known && decide (f.kind ≠ 0)) || decide (f.names.length ≠ f.kids.length))
def FT.one (f : FT) : Bool := !f.bad && (if f.isDir then ascN none f.names && f.restB else decide (f.names.length = 0) && (decide (f.rest = 0) && decide (f.beside = 0)))
theorem Ib (f : FT) : f.cells.length = 6 := rfl
theorem NE {l : List FT} {i : Nat} {f : FT} (h : l[i]? = some f) : (l.map FT.av)[i]? = some (.agg f.cells) := by
 rw [List.getElem?_map, h]; rfl
theorem Gr (f : FT) (s : St) : ldA s true 6 (.ep f.cells 0 .shut) = some (.agg f.cells) := rfl
theorem DF (f : FT) (s : St) : pubL s f.cells = some (f.cells, s) := rfl
theorem Xb (f : FT) (s : St) (hw : Wf s) : (lim prog).call JV [.agg f.cells] s = some (.b f.isDir, s) := by
 refine fn_W Uk rfl rfl ?_
 have H1 := (Hp.begin hw).new (.cells 26 f.cells)
 generalize hq : s.enter.new (.cells 26 f.cells) = q at H1
 generalize hm : s.enter.nb = m at H1
 have l0 := H1.ld 0 (off := 0) (v := .b f.known) rfl rfl
 have l1 := H1.ld 0 (off := 1) (v := .i .u8 (f.kind : Nat)) rfl rfl
 have hz0 : wkZ FG.cin [.agg f.cells] = [.agg f.cells] := by simp [FG, wkZ, wk, FT.cells, zx]
 rw [hz0]
 have hbr : ∀ b, KR s [.id] (.b b) (some ([.b b], q)) := fun b => AI H1.over rfl rfl
 have e1 : ((f.kind : Int) = 2) = (f.kind = 2) := by simp only [eq_iff_iff]; omega
 unfold FT.isDir
 cases hk : f.known
 · rw [hk] at l0
   simp only [FG, go_sem, AD, AA, AC, AB, KB_n, KB_x, Nat.reduceBEq, Nat.reduceAdd, Nat.reduceLT, Nat.reduceLeDiff, Nat.reduceEqDiff, reduceIte, Int.reduceEq, reduceCtorEq, Ib, hq, hm, l0, l1, Nat.zero_add, e1, Bool.false_and]
   exact hbr _
 · rw [hk] at l0
   simp only [FG, go_sem, AD, AA, AC, AB, KB_n, KB_x, Nat.reduceBEq, Nat.reduceAdd, Nat.reduceLT, Nat.reduceLeDiff, Nat.reduceEqDiff, reduceIte, Int.reduceEq, reduceCtorEq, Ib, hq, hm, l0, l1, Nat.zero_add, e1, Bool.true_and]
   exact hbr _

set_option maxHeartbeats 4000000
theorem OH {L : List (List Nat)} {i : Nat} {y : List Nat} (h : L[i]? = some y) : (L.take (i + 1)).getLast? = some y := by
 rw [List.take_add_one, h]
 simp
theorem Wk (a b : Bool) : (if (false = true) then a else b) = b := rfl
theorem Wl (a b : Bool) : (if (true = true) then a else b) = a := rfl
theorem one_ok (f : FT) (ho : f.Ok) (s : St) (hw : Wf s) : (lim prog).call MD [.agg f.cells] s = some (.b f.one, s) := by
 refine fn_W Ul rfl rfl ?_
 have H1 := (Hp.begin hw).new (.cells 26 f.cells)
 generalize hq : s.enter.new (.cells 26 f.cells) = q at H1
 generalize hm : s.enter.nb = m at H1
 have l0 := H1.ld 0 (off := 0) (v := .b f.known) rfl rfl
 have l1 := H1.ld 0 (off := 1) (v := .i .u8 (f.kind : Nat)) rfl rfl
 have l2 := H1.ld 0 (off := 2) (v := tx f.names) rfl rfl
 have l3 := H1.ld 0 (off := 3) (v := zx f.kids) rfl rfl
 have l4 := H1.ld 0 (off := 4) (v := .i .i64 f.rest) rfl rfl
 have l5 := H1.ld 0 (off := 5) (v := .i .i64 f.beside) rfl rfl
 have lw := H1.ldw (m := 6) 0 rfl rfl
 have hz0 : wkZ Cx.cin [.agg f.cells] = [.agg f.cells] := by simp [Cx, wkZ, wk, FT.cells, zx]
 rw [hz0]
 have hbr : ∀ b, KR s [.id] (.b b) (some ([.b b], q)) := fun b => AI H1.over rfl rfl
 have hd := Xb f q H1.wf
 unfold FT.one
 cases hb : f.bad
 · have hnb : ¬ (3 < f.kind) ∧ ((!f.known && decide (f.kind ≠ 0)) = false) ∧ f.names.length = f.kids.length := by
    unfold FT.bad at hb
    simp only [Bool.or_eq_false_iff, decide_eq_false_iff_not, Decidable.not_not] at hb
    exact ⟨hb.1, hb.2.1, by simpa using hb.2.2⟩
   obtain ⟨a1, a2, a3⟩ := hnb
   have e1 : ((3 : Int) < (f.kind : Int)) = False := eq_false (by omega)
   have e3 : ((f.names.length : Int) ≠ (f.kids.length : Int)) = False := by simp only [ne_eq, eq_iff_iff, iff_false]; omega
   have hx : ∃ kn : Bool, f.known = kn ∧ ((kn = false ∧ ((f.kind : Int) ≠ 0) = False) ∨ (kn = true ∧ (True = True))) := by
    cases hk : f.known
    · rw [hk] at a2
      exact ⟨_, rfl, .inl ⟨rfl, by simpa using a2⟩⟩
    · exact ⟨_, rfl, .inr ⟨rfl, rfl⟩⟩
   obtain ⟨kn, hk, hx⟩ := hx
   rw [hk] at l0
   rw [Bool.not_false, Bool.true_and]
   cases hi : f.isDir
   · rw [hi] at hd
     rw [Wk]
     by_cases d1 : f.names.length = 0
     · have r1 : (((f.names.length : Nat) : Int) = 0) = True := by simp [d1]
       by_cases d2 : f.rest = 0
       · have r2 : (f.rest = 0) = True := by simp [d2]
         rw [decide_eq_true d1, decide_eq_true d2, Bool.true_and, Bool.true_and]
         rcases hx with ⟨rfl, e2⟩ | ⟨rfl, e2⟩ <;> simp only [Cx, go_sem, AD, AA, AC, AB, KB_n, KB_x, Nat.reduceBEq, Nat.reduceAdd, Nat.reduceLT, Nat.reduceLeDiff, Nat.reduceEqDiff, reduceIte, Int.reduceEq, reduceCtorEq, Ib, hq, hm, l0, l1, l2, l3, l4, l5, lw, hd, zx, Nat.zero_add, e1, e2, List.length_map, e3, r1, r2, DF] <;> exact hbr _
       · have r2 : (f.rest = 0) = False := by simp [d2]
         rw [decide_eq_true d1, decide_eq_false d2, Bool.false_and, Bool.and_false]
         rcases hx with ⟨rfl, e2⟩ | ⟨rfl, e2⟩ <;> simp only [Cx, go_sem, AD, AA, AC, AB, KB_n, KB_x, Nat.reduceBEq, Nat.reduceAdd, Nat.reduceLT, Nat.reduceLeDiff, Nat.reduceEqDiff, reduceIte, Int.reduceEq, reduceCtorEq, Ib, hq, hm, l0, l1, l2, l3, l4, l5, lw, hd, zx, Nat.zero_add, e1, e2, List.length_map, e3, r1, r2, DF] <;> exact hbr _
     · have r1 : (((f.names.length : Nat) : Int) = 0) = False := eq_false (by omega)
       rw [decide_eq_false d1, Bool.false_and]
       rcases hx with ⟨rfl, e2⟩ | ⟨rfl, e2⟩ <;> simp only [Cx, go_sem, AD, AA, AC, AB, KB_n, KB_x, Nat.reduceBEq, Nat.reduceAdd, Nat.reduceLT, Nat.reduceLeDiff, Nat.reduceEqDiff, reduceIte, Int.reduceEq, reduceCtorEq, Ib, hq, hm, l0, l1, l2, l3, l4, l5, lw, hd, zx, Nat.zero_add, e1, e2, List.length_map, e3, r1, DF] <;> exact hbr _
   · rw [hi] at hd
     rw [Wl]
     have hkt : kn = true := by
      unfold FT.isDir at hi
      rw [hk] at hi
      cases kn
      · cases hi
      · rfl
     subst hkt
     have hnl := ho.nlen
     simp only [Cx, go_sem, AD, AA, AC, AB, KB_n, KB_x, Nat.reduceBEq, Nat.reduceAdd, Nat.reduceLT, Nat.reduceLeDiff, Nat.reduceEqDiff, reduceIte, Int.reduceEq, reduceCtorEq, Ib, hq, hm, l0, l1, l2, l3, l4, l5, lw, hd, zx, Nat.zero_add, e1, List.length_map, e3, DF]
     refine CI (fun x e q' => ∃ i : Nat, i + x = f.names.length ∧ q' = q ∧ ascN none (f.names.take i) = true ∧ e.get 1 = .p m 0 ∧ e.get 47 = tx f.names ∧ e.get 48 = .i .i64 (f.names.length : Nat) ∧ e.get 49 = .i .i64 (i : Nat)) ?_ f.names.length _ _ ?_
     · rintro x e q' ⟨i, hix, rfl, hac, g1, g47, g48, g49⟩
       by_cases h : i < f.names.length
       · have h1 : ((i : Int) < (f.names.length : Int)) = True := eq_true (by omega)
         obtain ⟨y, hy⟩ : ∃ y, f.names[i]? = some y := ⟨_, List.getElem?_eq_getElem h⟩
         have hy2 : (f.names.map AV.s)[i]? = some (.s y) := by rw [List.getElem?_map, hy]; rfl
         have hym : y ∈ f.names := List.mem_of_getElem? hy
         have hnm := Qx y (ho.names y hym).1 q' H1.wf
         have hw1 := Ax (show i + 1 < 2 ^ 63 by omega)
         have htk : f.names.take (i + 1) = f.names.take i ++ [y] := by rw [List.take_add_one, hy]; rfl
         have hsn := Pj none (f.names.take i) y
         rw [← htk, hac, Bool.true_and] at hsn
         have hno : ascN none (f.names.take (i + 1)) = false → ascN none f.names = false := fun hf => by
          rw [Bool.eq_false_iff]
          intro ht
          rw [Pk none f.names (i + 1) ht] at hf
          cases hf
         cases hn1 : HQ y with
         | false =>
           rw [hn1] at hnm hsn
           rw [hno hsn, Bool.false_and]
           simp only [go_sem, AD, AA, AC, AB, KB_n, KB_x, Nat.reduceBEq, Nat.reduceAdd, Nat.reduceLT, Nat.reduceLeDiff, Nat.reduceEqDiff, reduceIte, Int.reduceEq, reduceCtorEq, g1, g47, g48, g49, h1, AK, hy2, Bi, DW, hnm]
           exact hbr _
         | true =>
           rw [hn1] at hnm hsn
           cases i with
           | zero =>
             have h2 : ((0 : Int) < ((0 : Nat) : Int)) = False := by simp
             have hsn : ascN none (f.names.take (0 + 1)) = true := by rw [hsn]; simp
             simp only [go_sem, AD, AA, AC, AB, KB_n, KB_x, Nat.reduceBEq, Nat.reduceAdd, Nat.reduceLT, Nat.reduceLeDiff, Nat.reduceEqDiff, reduceIte, Int.reduceEq, reduceCtorEq, g1, g47, g48, g49, h1, AK, hy2, Bi, DW, hnm, h2, hw1]
             exact ⟨x - 1, by omega, 0 + 1, by omega, hsn, rfl⟩
           | succ i =>
             have h2 : ((0 : Int) < ((i + 1 : Nat) : Int)) = True := eq_true (by omega)
             obtain ⟨z, hz⟩ : ∃ z, f.names[i]? = some z := ⟨_, List.getElem?_eq_getElem (by omega)⟩
             have hz2 : (f.names.map AV.s)[i]? = some (.s z) := by rw [List.getElem?_map, hz]; rfl
             have hsb : IntKind.i64.wrap (((i + 1 : Nat) : Int) - 1) = (i : Int) := by
              rw [show ((i + 1 : Nat) : Int) - 1 = (i : Int) by omega]; exact Cz (by omega)
             rw [OH hz] at hsn
             have hsn : ascN none (f.names.take (i + 1 + 1)) = ltN z y := by rw [hsn]; simp
             have hle : (ltN y z || beqN y z) = !ltN z y := Ja y z
             cases hzy : ltN z y with
             | false =>
               rw [hzy] at hle hsn
               rw [hno hsn, Bool.false_and]
               simp only [go_sem, AD, AA, AC, AB, KB_n, KB_x, Nat.reduceBEq, Nat.reduceAdd, Nat.reduceLT, Nat.reduceLeDiff, Nat.reduceEqDiff, reduceIte, Int.reduceEq, reduceCtorEq, g1, g47, g48, g49, h1, AK, hy2, Bi, DW, hnm, h2, l2, hsb, hz2, Kl, hle, Nat.zero_add]
               exact hbr _
             | true =>
               rw [hzy] at hle hsn
               simp only [go_sem, AD, AA, AC, AB, KB_n, KB_x, Nat.reduceBEq, Nat.reduceAdd, Nat.reduceLT, Nat.reduceLeDiff, Nat.reduceEqDiff, reduceIte, Int.reduceEq, reduceCtorEq, g1, g47, g48, g49, h1, AK, hy2, Bi, DW, hnm, h2, l2, hsb, hz2, Kl, hle, Nat.zero_add, hw1]
               exact ⟨x - 1, by omega, i + 1 + 1, by omega, hsn, rfl⟩
       · have h1 : ((i : Int) < (f.names.length : Int)) = False := eq_false (by omega)
         rw [List.take_of_length_le (by omega)] at hac
         rw [hac, Bool.true_and]
         unfold FT.restB
         by_cases d1 : f.rest = 2
         · have r1 : (f.rest = 2) = True := by simp [d1]
           rw [if_pos d1]
           by_cases d2 : 0 ≤ f.beside
           · have r2 : ((0 : Int) ≤ f.beside) = True := by simp [d2]
             rw [decide_eq_true d2, Bool.true_and]
             simp only [go_sem, AD, AA, AC, AB, KB_n, KB_x, Nat.reduceBEq, Nat.reduceAdd, Nat.reduceLT, Nat.reduceLeDiff, Nat.reduceEqDiff, reduceIte, Int.reduceEq, reduceCtorEq, g1, g47, g48, g49, h1, l2, l4, l5, List.length_map, Nat.zero_add, r1, r2]
             exact hbr _
           · have r2 : ((0 : Int) ≤ f.beside) = False := by simp [d2]
             rw [decide_eq_false d2, Bool.false_and]
             simp only [go_sem, AD, AA, AC, AB, KB_n, KB_x, Nat.reduceBEq, Nat.reduceAdd, Nat.reduceLT, Nat.reduceLeDiff, Nat.reduceEqDiff, reduceIte, Int.reduceEq, reduceCtorEq, g1, g47, g48, g49, h1, l2, l4, l5, List.length_map, Nat.zero_add, r1, r2]
             exact hbr _
         · have r1 : (f.rest = 2) = False := by simp [d1]
           rw [if_neg d1]
           by_cases d3 : f.rest = 0
           · have r3 : (f.rest = 0) = True := by simp [d3]
             rw [decide_eq_true d3, Bool.true_or, Bool.true_and]
             simp only [go_sem, AD, AA, AC, AB, KB_n, KB_x, Nat.reduceBEq, Nat.reduceAdd, Nat.reduceLT, Nat.reduceLeDiff, Nat.reduceEqDiff, reduceIte, Int.reduceEq, reduceCtorEq, g1, g47, g48, g49, h1, l2, l4, l5, List.length_map, Nat.zero_add, r1, r3]
             exact hbr _
           · have r3 : (f.rest = 0) = False := by simp [d3]
             rw [decide_eq_false d3, Bool.false_or]
             by_cases d4 : f.rest = 1
             · have r4 : (f.rest = 1) = True := by simp [d4]
               rw [decide_eq_true d4, Bool.true_and]
               simp only [go_sem, AD, AA, AC, AB, KB_n, KB_x, Nat.reduceBEq, Nat.reduceAdd, Nat.reduceLT, Nat.reduceLeDiff, Nat.reduceEqDiff, reduceIte, Int.reduceEq, reduceCtorEq, g1, g47, g48, g49, h1, l2, l4, l5, List.length_map, Nat.zero_add, r1, r3, r4]
               exact hbr _
             · have r4 : (f.rest = 1) = False := by simp [d4]
               rw [decide_eq_false d4, Bool.false_and]
               simp only [go_sem, AD, AA, AC, AB, KB_n, KB_x, Nat.reduceBEq, Nat.reduceAdd, Nat.reduceLT, Nat.reduceLeDiff, Nat.reduceEqDiff, reduceIte, Int.reduceEq, reduceCtorEq, g1, g47, g48, g49, h1, l2, l4, l5, List.length_map, Nat.zero_add, r1, r3, r4]
               exact hbr _
     · simp only [go_sem, AD, AA, AC, AB, KB_n, KB_x, Nat.reduceBEq, Nat.reduceAdd, Nat.reduceLT, Nat.reduceLeDiff, Nat.reduceEqDiff, reduceIte, Int.reduceEq, reduceCtorEq]
       exact ⟨0, by omega, by simp [ascN], rfl⟩
 · have hkn : f.names.length = (f.names.map AV.s).length := by simp
   unfold FT.bad at hb
   by_cases a1 : 3 < f.kind
   · have e1 : ((3 : Int) < (f.kind : Int)) = True := eq_true (by omega)
     simp only [Cx, go_sem, AD, AA, AC, AB, KB_n, KB_x, Nat.reduceBEq, Nat.reduceAdd, Nat.reduceLT, Nat.reduceLeDiff, Nat.reduceEqDiff, reduceIte, Int.reduceEq, reduceCtorEq, Ib, hq, hm, l0, l1, l2, l3, l4, l5, Nat.zero_add, e1, Bool.not_true, Bool.false_and]
     exact hbr _
   · have e1 : ((3 : Int) < (f.kind : Int)) = False := eq_false (by omega)
     rw [decide_eq_false a1, Bool.false_or] at hb
     cases hk : f.known
     · rw [hk] at l0 hb
       by_cases a2 : f.kind = 0
       · have e2 : ((f.kind : Int) ≠ 0) = False := by simp [a2]
         have hb : f.names.length ≠ f.kids.length := by simpa [a2] using hb
         have e3 : ((f.names.length : Int) ≠ (f.kids.length : Int)) = True := by simp only [ne_eq, eq_iff_iff, iff_true]; omega
         simp only [Cx, go_sem, AD, AA, AC, AB, KB_n, KB_x, Nat.reduceBEq, Nat.reduceAdd, Nat.reduceLT, Nat.reduceLeDiff, Nat.reduceEqDiff, reduceIte, Int.reduceEq, reduceCtorEq, Ib, hq, hm, l0, l1, l2, l3, l4, l5, zx, Nat.zero_add, e1, e2, List.length_map, e3, Bool.not_true, Bool.false_and]
         exact hbr _
       · have e2 : ((f.kind : Int) ≠ 0) = True := by simp [a2]
         simp only [Cx, go_sem, AD, AA, AC, AB, KB_n, KB_x, Nat.reduceBEq, Nat.reduceAdd, Nat.reduceLT, Nat.reduceLeDiff, Nat.reduceEqDiff, reduceIte, Int.reduceEq, reduceCtorEq, Ib, hq, hm, l0, l1, l2, l3, l4, l5, Nat.zero_add, e1, e2, Bool.not_true, Bool.false_and]
         exact hbr _
     · rw [hk] at l0 hb
       have hb : f.names.length ≠ f.kids.length := by simpa using hb
       have e3 : ((f.names.length : Int) ≠ (f.kids.length : Int)) = True := by simp only [ne_eq, eq_iff_iff, iff_true]; omega
       simp only [Cx, go_sem, AD, AA, AC, AB, KB_n, KB_x, Nat.reduceBEq, Nat.reduceAdd, Nat.reduceLT, Nat.reduceLeDiff, Nat.reduceEqDiff, reduceIte, Int.reduceEq, reduceCtorEq, Ib, hq, hm, l0, l1, l2, l3, l4, l5, zx, Nat.zero_add, e1, List.length_map, e3, Bool.not_true, Bool.false_and]
       exact hbr _
end Go.Proofs.YtbfgoopcnkeblaaGreat

namespace Go.Proofs.YtbfgoopcnkeblaaGreat
open Go.Proofs.YtbfgoopcnkeblaaGreat.Am

attribute [local irreducible] W WO WE WQ WD Tr.get Tr.set
def Pl (P : Int → Bool) (L : List Int) : Int := match L.findIdx? P with
 | some i => (i : Int)
 | none => -1
theorem Pm (P : Int → Bool) (L : List Int) : (0 ≤ Pl P L) = (L.any P = true) := by
 unfold Pl
 cases h : L.findIdx? P with
 | none =>
   rw [List.findIdx?_eq_none_iff] at h
   simp only [eq_iff_iff, List.any_eq_true]
   constructor
   · intro hh; simp at hh
   · rintro ⟨x, hx, hp⟩; rw [h x hx] at hp; cases hp
 | some i =>
   rw [List.findIdx?_eq_some_iff_getElem] at h
   obtain ⟨h1, h2, _⟩ := h
   simp only [eq_iff_iff, List.any_eq_true]
   exact ⟨fun _ => ⟨L[i], List.getElem_mem h1, h2⟩, fun _ => by omega⟩
theorem Rl {P : Int → Bool} {L : List Int} {i : Nat} {z : Int} (h : L[i]? = some z) (hz : P z = true) (hb : ∀ j, j < i → ∀ y, L[j]? = some y → P y = false) : Pl P L = (i : Int) := by
 have : L.findIdx? P = some i := by
  rw [List.findIdx?_eq_some_iff_getElem]
  obtain ⟨h1, h2⟩ := List.getElem?_eq_some_iff.1 h
  refine ⟨h1, by rw [h2]; exact hz, fun j hj => ?_⟩
  rw [hb j hj L[j] (List.getElem?_eq_getElem (by omega))]
  simp
 unfold Pl
 rw [this]
theorem Rm {P : Int → Bool} {L : List Int} (hb : ∀ j, j < L.length → ∀ y, L[j]? = some y → P y = false) : Pl P L = -1 := by
 have : L.findIdx? P = none := by
  rw [List.findIdx?_eq_none_iff]
  intro x hx
  obtain ⟨j, hj, rfl⟩ := List.mem_iff_getElem.1 hx
  exact hb j hj _ (List.getElem?_eq_getElem hj)
 unfold Pl
 rw [this]
theorem Pn {L : List Int} {i : Nat} {z : Int} (h : L[i]? = some z) : (L.map iv)[i]? = some (.i .i64 z) := by
 rw [List.getElem?_map, h]; rfl
theorem Fe (z : Int) : (AV.i .i64 z).cells = [.i .i64 z] := rfl
theorem Wm {s q : St} (h : Over s q) {id : Nat} (hid : id < s.nb) : q.box? id = s.box? id := by
 have h1 := h.nb
 have e1 : Nat.blt id q.nb = true := by rw [Nat.blt_eq]; omega
 have e2 : Nat.blt id s.nb = true := by rw [Nat.blt_eq]; exact hid
 simp only [St.box?, e1, e2, cond_true, ← h.boxes, List.getElem?_drop]
 congr 1
 omega
theorem KM {s q : St} (h : Over s q) {id T off : Nat} {cs : List AV} {v : AV} (hid : id < s.nb) (hb : s.box? id = some (.cells T cs)) (hc : cs[off]? = some v) : ldA q false 1 (.p id off) = some v :=
 D4 (by rw [Wm h hid]; exact hb) hc
theorem OI (L : List Int) (hL : L.length < 2 ^ 62) (g : Nat) (caps : List AV) (P : Int → Bool) (s : St) (hw : Wf s) {id off T : Nat} {p : Nat × Bool} {cs : List AV} (hid : id < s.nb) (hbx : s.box? id = some (.cells T cs)) (hcs : ∀ i z, L[i]? = some z → cs[off + i]? = some (.i .i64 z)) (hP : ∀ z ∈ L, Ej (lim prog) (.fn g caps) [.i .i64 z] s.enter = some (.b (P z), s.enter)) :
    (lim prog).call Cq [AV.bl id 1 off L.length p, .fn g caps] s = some (.i .i64 (Pl P L), s) := by
 refine fn_W GC rfl rfl ?_
 have hz0 : wkZ A4.cin [AV.bl id 1 off L.length p, .fn g caps] = [AV.bl id 1 off L.length p, .fn g caps] := by simp [A4, wkZ, wk]
 rw [hz0]
 simp only [A4, go_sem, AD, AA, AC, AB, KB_n, KB_x, Nat.reduceBEq, Nat.reduceAdd, Nat.reduceLT, Nat.reduceLeDiff, Nat.reduceEqDiff, reduceIte, Int.reduceEq, reduceCtorEq]
 refine CI (fun x e q => ∃ i : Nat, i + x = L.length ∧ q = s.enter ∧ (∀ j, j < i → ∀ y, L[j]? = some y → P y = false) ∧ e.get 0 = AV.bl id 1 off L.length p ∧ e.get 1 = .fn g caps ∧ e.get 7 = .i .i64 (L.length : Nat) ∧ e.get 8 = .i .i64 (i : Nat)) ?_ L.length _ _ ?_
 · rintro x e q ⟨i, hi, rfl, hb, g0, g1, g7, g8⟩
   by_cases h : i < L.length
   · have h1 : ((i : Int) < (L.length : Int)) = True := eq_true (by omega)
     obtain ⟨z, hz⟩ : ∃ z, L[i]? = some z := ⟨_, List.getElem?_eq_getElem h⟩
     have hz2 := KM (Over.enter s) (off := off + i) (v := .i .i64 z) hid hbx (hcs i z hz)
     have hlt : (i < L.length) = True := by simp [h]
     have hc := hP z (List.mem_of_getElem? hz)
     have hw1 := Ax (show i + 1 < 2 ^ 63 by omega)
     cases hp : P z with
     | true =>
       rw [hp] at hc
       rw [Rl hz hp hb]
       simp only [go_sem, AD, AA, AC, AB, KB_n, KB_x, Nat.reduceBEq, Nat.reduceAdd, Nat.reduceLT, Nat.reduceLeDiff, Nat.reduceEqDiff, reduceIte, Int.reduceEq, reduceCtorEq, g0, g1, g7, g8, h1, AK, hlt, Nat.mul_one, hz2, hc]
       exact AI (Over.enter s) rfl rfl
     | false =>
       rw [hp] at hc
       simp only [go_sem, AD, AA, AC, AB, KB_n, KB_x, Nat.reduceBEq, Nat.reduceAdd, Nat.reduceLT, Nat.reduceLeDiff, Nat.reduceEqDiff, reduceIte, Int.reduceEq, reduceCtorEq, g0, g1, g7, g8, h1, AK, hlt, Nat.mul_one, hz2, hc, hw1]
       refine ⟨x - 1, by omega, i + 1, by omega, fun j hj y hy => ?_, rfl⟩
       rcases Nat.lt_or_ge j i with hlt | hge
       · exact hb j hlt y hy
       · obtain rfl : j = i := by omega
         rw [hz] at hy; cases hy; exact hp
   · have h1 : ((i : Int) < (L.length : Int)) = False := eq_false (by omega)
     rw [Rm fun j hj => hb j (by omega)]
     simp only [go_sem, AD, AA, AC, AB, KB_n, KB_x, Nat.reduceBEq, Nat.reduceAdd, Nat.reduceLT, Nat.reduceLeDiff, Nat.reduceEqDiff, reduceIte, Int.reduceEq, reduceCtorEq, g0, g1, g7, g8, h1]
     exact AI (Over.enter s) rfl rfl
 · simp only [go_sem, AD, AA, AC, AB, KB_n, KB_x, Nat.reduceBEq, Nat.reduceAdd, Nat.reduceLT, Nat.reduceLeDiff, Nat.reduceEqDiff, reduceIte, Int.reduceEq, reduceCtorEq]
   exact ⟨0, by omega, fun j hj => by omega, rfl⟩
theorem K8 (L : List Int) (hL : L.length < 2 ^ 62) (g : Nat) (caps : List AV) (P : Int → Bool) (s : St) (hw : Wf s) {id off T : Nat} {p : Nat × Bool} {cs : List AV} (hid : id < s.nb) (hbx : s.box? id = some (.cells T cs)) (hcs : ∀ i z, L[i]? = some z → cs[off + i]? = some (.i .i64 z)) (hP : ∀ z ∈ L, Ej (lim prog) (.fn g caps) [.i .i64 z] s.enter = some (.b (P z), s.enter)) :
    (lim prog).call CS [AV.bl id 1 off L.length p, .fn g caps] s = some (.b (L.any P), s) := by
 refine fn_W FN rfl rfl ?_
 have hz0 : wkZ Al.cin [AV.bl id 1 off L.length p, .fn g caps] = [AV.bl id 1 off L.length p, .fn g caps] := by simp [Al, wkZ, wk]
 have h1 := OI L hL g caps P s.enter hw.enter (p := p) hid hbx hcs hP
 rw [hz0]
 simp only [Al, go_sem, AD, AA, AC, AB, KB_n, KB_x, Nat.reduceBEq, Nat.reduceAdd, Nat.reduceLT, Nat.reduceLeDiff, Nat.reduceEqDiff, reduceIte, Int.reduceEq, reduceCtorEq, h1, Pm]
 exact AI (Over.enter s) rfl (by cases h : L.any P <;> rfl)

def cnts (n : Nat) (P : List Int) : List AV := (List.range n).map fun j => .i .i64 ((P.count ((j : Nat) : Int) : Nat) : Int)
theorem Rn : ∀ n, repL n [.i .i64 0] = cnts n []
 | 0 => rfl
 | n + 1 => by
   have h1 : ∀ m, cnts m [] = List.replicate m (.i .i64 0) := fun m => by
    unfold cnts
    apply List.ext_getElem?
    intro j
    rw [List.getElem?_map, List.getElem?_replicate]
    by_cases hj : j < m
    · rw [List.getElem?_range hj, if_pos hj]; rfl
    · rw [List.getElem?_eq_none (by simpa using hj), if_neg hj]; rfl
   rw [repL, Rn n, h1, h1]; rfl
theorem LN (n : Nat) (P : List Int) : (cnts n P).length = n := by simp [cnts]
theorem JZ {n j : Nat} {P : List Int} (h : j < n) : (cnts n P)[j]? = some (.i .i64 ((P.count (j : Int) : Nat) : Int)) := by
 unfold cnts
 rw [List.getElem?_map, List.getElem?_range h]; rfl
theorem Wn {n k : Nat} {P : List Int} (h : k < n) : (cnts n P).set k (.i .i64 ((P.count (k : Int) + 1 : Nat) : Int)) = cnts n (P ++ [(k : Int)]) := by
 apply List.ext_getElem?
 intro j
 rw [List.getElem?_set]
 by_cases hj : k = j
 · subst hj
   rw [if_pos rfl, if_pos (by rw [LN]; exact h), JZ h]
   simp [List.count_append]
 · rw [if_neg hj]
   by_cases hjn : j < n
   · rw [JZ hjn, JZ hjn, List.count_append]
     have : List.count (j : Int) [(k : Int)] = 0 := by
      rw [List.count_eq_zero]
      simp only [List.mem_singleton]
      omega
     rw [this]; rfl
   · rw [List.getElem?_eq_none (by rw [LN]; omega), List.getElem?_eq_none (by rw [LN]; omega)]
def mayP (l : List FT) : Bool := match l with
 | [] => false
 | f :: t => f.isDir && ((f :: t).all FT.one && (Hv (f :: t).length 0 (f :: t) && Ph (f :: t)))
def fine (n i : Nat) (f : FT) : Prop := f.one = true ∧ ∀ k ∈ f.kids, (i : Int) < k ∧ k < (n : Int)
theorem Wo {f : FT} {t : List FT} {i : Nat} {x : FT} (h : (f :: t)[i]? = some x) (hf : ¬ fine (f :: t).length i x) : mayP (f :: t) = false := by
 rw [Bool.eq_false_iff]
 intro hm
 simp only [mayP, Bool.and_eq_true, List.all_eq_true, Gq] at hm
 exact hf ⟨hm.2.1 x (List.mem_of_getElem? h), fun k hk => by have := hm.2.2.1 i x h k hk; simpa using this⟩
theorem Wp {f : FT} {t : List FT} (hd : f.isDir = true) (h : ∀ i x, (f :: t)[i]? = some x → fine (f :: t).length i x) : mayP (f :: t) = Ph (f :: t) := by
 have h1 : (f :: t).all FT.one = true := by
  rw [List.all_eq_true]
  intro x hx
  obtain ⟨i, hi, rfl⟩ := List.mem_iff_getElem.1 hx
  exact (h i _ (List.getElem?_eq_getElem hi)).1
 have h2 : Hv (f :: t).length 0 (f :: t) = true := Gq.2 fun a g hg k hk => by
  have := (h a g hg).2 k hk
  simpa using this
 simp only [mayP, hd, h1, h2, Bool.true_and]
theorem Wq (l : List FT) (hl : 0 < l.length) : Ph l = !((List.range (l.length - 1)).map fun j : Nat => ((cntK l ((j : Int) + 1) : Nat) : Int)).any fun z => decide (z ≠ 1) := by
 unfold Ph
 rw [List.any_map, List.not_any_eq_all_not]
 congr 1
 funext j
 simp only [Function.comp]
 rw [Bool.eq_iff_iff]
 simp
 omega
theorem Y1 (z : Int) (s : St) : (lim prog).call HK [.i .i64 z] s = some (.b (decide (z ≠ 1)), s) := by
 refine fn_W Qi rfl rfl ?_
 simp only [F0, go_sem, AD, AA, AC, AB, KB_n, KB_x, Nat.reduceBEq, Nat.reduceAdd, Nat.reduceLT, Nat.reduceLeDiff, Nat.reduceEqDiff, reduceIte, Int.reduceEq, reduceCtorEq]
 exact AI (Over.enter s) rfl rfl
theorem IQ {l : List FT} {i : Nat} {f : FT} (h : l[i]? = some f) : flatK (l.take (i + 1)) = flatK (l.take i) ++ f.kids := by
 unfold flatK
 rw [List.take_add_one, h]
 simp

theorem Wr (l : List FT) (i : Nat) : (flatK (l.take i)).length ≤ (flatK l).length := by
 have : flatK l = flatK (l.take i) ++ flatK (l.drop i) := by
  unfold flatK
  rw [← List.flatten_append, ← List.map_append, List.take_append_drop]
 rw [this, List.length_append]
 omega
theorem NF (l : List FT) (ho : ∀ f ∈ l, f.Ok) (hl : l.length < 2 ^ 34) (hB : (flatK l).length < 2 ^ 62) (s : St) (hw : Wf s) : (lim prog).call Gk [fx l] s = some (.b (mayP l), s) := by
 refine fn_W Ui rfl rfl ?_
 have hz0 : wkZ Ef.cin [fx l] = [fx l] := by
  simp only [Ef, wkZ, fx, wk]
 rw [hz0]
 cases hl0 : l with
 | nil =>
   have r1 : (((List.map FT.av []).length : Int) = 0) = True := by simp
   simp only [Ef, go_sem, AD, AA, AC, AB, KB_n, KB_x, Nat.reduceBEq, Nat.reduceAdd, Nat.reduceLT, Nat.reduceLeDiff, Nat.reduceEqDiff, reduceIte, Int.reduceEq, reduceCtorEq, fx, r1]
   exact AI (Over.enter s) rfl rfl
 | cons f t =>
   have hmay : mayP (f :: t) = mayP l := by rw [hl0]
   have hdef : f.isDir = false → mayP l = false := fun h => by rw [hl0, mayP, h]; rfl
   have hf0 : l[0]? = some f := by rw [hl0]; rfl
   have hpos : 0 < l.length := by rw [hl0]; simp
   rw [hmay, ← hl0]
   clear hmay
   have r1 : ((l.length : Int) = 0) = False := eq_false (by omega)
   have hget := NE hf0
   have hd := Xb f s.enter hw.enter
   cases hi : f.isDir
   · rw [hi] at hd
     rw [hdef hi]
     simp only [Ef, go_sem, AD, AA, AC, AB, KB_n, KB_x, Nat.reduceBEq, Nat.reduceAdd, Nat.reduceLT, Nat.reduceLeDiff, Nat.reduceEqDiff, reduceIte, Int.reduceEq, reduceCtorEq, fx, List.length_map, r1, VB, hget, B4, Gr, DF, hd]
     exact AI (Over.enter s) rfl rfl
   · rw [hi] at hd
     have hmk : (0 ≤ (l.length : Int) ∧ (l.length : Int) ≤ (l.length : Int) ∧ (l.length : Int) * (1 : Nat) < 2 ^ 38 ∧ (l.length : Int) < 2 ^ 38) = True := by
      simp only [eq_iff_iff, iff_true]; omega
     simp only [Ef, go_sem, AD, AA, AC, AB, KB_n, KB_x, Nat.reduceBEq, Nat.reduceAdd, Nat.reduceLT, Nat.reduceLeDiff, Nat.reduceEqDiff, reduceIte, Int.reduceEq, reduceCtorEq, fx, List.length_map, r1, VB, hget, B4, Gr, DF, hd, hmk, Int.toNat_natCast, Rn, Nat.mul_one]
     have H0 := (Hp.begin hw).new (.cells 3 (cnts l.length []))
     generalize hq0 : s.enter.new (.cells 3 (cnts l.length [])) = q0 at H0
     generalize hm : s.enter.nb = m at H0
     refine CI (fun x e q => ∃ i : Nat, i + x = l.length ∧ Hp s q s.en [] [(m, .cells 3 (cnts l.length (flatK (l.take i))))] ∧ (∀ a g, a < i → l[a]? = some g → fine l.length a g) ∧ e.get 0 = fx l ∧ e.get 3 = .bl m 1 0 l.length (l.length, true) ∧ e.get 21 = fx l ∧ e.get 22 = .i .i64 (l.length : Nat) ∧ e.get 23 = .i .i64 (i : Nat)) ?_ l.length _ _ ?_
     · rintro x e q ⟨i, hix, H, hfi, g0, g3, g21, g22, g23⟩
       by_cases h : i < l.length
       · have h1 : ((i : Int) < (l.length : Int)) = True := eq_true (by omega)
         obtain ⟨g, hg⟩ : ∃ g, l[i]? = some g := ⟨_, List.getElem?_eq_getElem h⟩
         have hg2 := NE hg
         have hgo := ho g (List.mem_of_getElem? hg)
         have hw1 := Ax (show i + 1 < 2 ^ 63 by omega)
         obtain ⟨q1, d1, H1, n1⟩ := H.adp (T := 26) (m := 6) (z := [.b false, .i .u8 0, .nsl, .nsl, .i .i64 0, .i .i64 0]) (v := .agg g.cells) rfl ⟨rfl, rfl⟩
         generalize hb : q.nb = b at d1 H1
         have hone := one_ok g hgo q1 H1.wf
         have lw := H1.ldw (m := 6) 0 rfl rfl
         have l3 := H1.ld 0 (off := 3) (v := zx g.kids) rfl rfl
         have hno : ¬ fine l.length i g → mayP l = false := fun hn => by rw [hl0] at hg hn ⊢; exact Wo hg hn
         cases ho1 : g.one
         · rw [ho1] at hone
           rw [hno fun hh => by rw [hh.1] at ho1; cases ho1]
           simp only [go_sem, AD, AA, AC, AB, KB_n, KB_x, Nat.reduceBEq, Nat.reduceAdd, Nat.reduceLT, Nat.reduceLeDiff, Nat.reduceEqDiff, reduceIte, Int.reduceEq, reduceCtorEq, g0, g3, g21, g22, g23, fx, h1, AK, hg2, B4, Gr, DF, d1, hb, lw, hone]
           exact AI H1.over rfl rfl
         · rw [ho1] at hone
           simp only [go_sem, AD, AA, AC, AB, KB_n, KB_x, Nat.reduceBEq, Nat.reduceAdd, Nat.reduceLT, Nat.reduceLeDiff, Nat.reduceEqDiff, reduceIte, Int.reduceEq, reduceCtorEq, g0, g3, g21, g22, g23, fx, h1, AK, hg2, B4, Gr, DF, d1, hb, lw, hone, l3, Nat.zero_add, zx, List.length_map]
           refine CI (fun y e q' => ∃ c : Nat, c + y = g.kids.length ∧ Hp s q' s.en [] [(b, .cells 26 g.cells), (m, .cells 3 (cnts l.length (flatK (l.take i) ++ g.kids.take c)))] ∧ (∀ k ∈ g.kids.take c, (i : Int) < k ∧ k < (l.length : Int)) ∧ e.get 0 = fx l ∧ e.get 3 = .bl m 1 0 l.length (l.length, true) ∧ e.get 21 = fx l ∧ e.get 22 = .i .i64 (l.length : Nat) ∧ e.get 23 = .i .i64 (i : Nat) ∧ e.get 4 = .i .i64 (i : Nat) ∧ e.get 32 = zx g.kids ∧ e.get 33 = .i .i64 (g.kids.length : Nat) ∧ e.get 34 = .i .i64 (c : Nat)) ?_ g.kids.length _ _ ?_
           · clear g0 g3 g21 g22 g23
             rintro y e q' ⟨c, hcy, H, hfk, g0, g3, g21, g22, g23, g4, g32, g33, g34⟩
             by_cases hc : c < g.kids.length
             · have c1 : ((c : Int) < (g.kids.length : Int)) = True := eq_true (by omega)
               obtain ⟨k, hk⟩ : ∃ k, g.kids[c]? = some k := ⟨_, List.getElem?_eq_getElem hc⟩
               have hk2 := Pn hk
               have hkm := List.mem_of_getElem? hk
               have hw2 := Ax (show c + 1 < 2 ^ 63 by have := hgo.klen; omega)
               by_cases k1 : k ≤ (i : Int)
               · have e1 : (k ≤ (i : Int)) = True := by simp [k1]
                 rw [hno fun hh => by have := (hh.2 k hkm).1; omega]
                 simp only [go_sem, AD, AA, AC, AB, KB_n, KB_x, Nat.reduceBEq, Nat.reduceAdd, Nat.reduceLT, Nat.reduceLeDiff, Nat.reduceEqDiff, reduceIte, Int.reduceEq, reduceCtorEq, g0, g3, g21, g22, g23, g4, g32, g33, g34, zx, c1, AK, hk2, Fe, DW, e1]
                 exact AI H.over rfl rfl
               · have e1 : (k ≤ (i : Int)) = False := by simp [k1]
                 by_cases k2 : (l.length : Int) ≤ k
                 · have e2 : ((l.length : Int) ≤ k) = True := by simp [k2]
                   rw [hno fun hh => by have := (hh.2 k hkm).2; omega]
                   simp only [go_sem, AD, AA, AC, AB, KB_n, KB_x, Nat.reduceBEq, Nat.reduceAdd, Nat.reduceLT, Nat.reduceLeDiff, Nat.reduceEqDiff, reduceIte, Int.reduceEq, reduceCtorEq, g0, g3, g21, g22, g23, g4, g32, g33, g34, fx, zx, List.length_map, c1, AK, hk2, Fe, DW, e1, e2]
                   exact AI H.over rfl rfl
                 · have e2 : ((l.length : Int) ≤ k) = False := by simp [k2]
                   obtain ⟨j, rfl⟩ : ∃ j : Nat, k = (j : Int) := ⟨k.toNat, by omega⟩
                   have hj : j < l.length := by omega
                   have hlt : (j < l.length) = True := by simp [hj]
                   have lj := H.ld 1 (off := j) (v := _) rfl (JZ hj)
                   obtain ⟨q2, d2, H2, n2, _⟩ := H.st 1 (off := j) (v := .i .i64 (((flatK (l.take i) ++ g.kids.take c).count (j : Int) + 1 : Nat) : Int)) rfl (by rw [LN]; exact hj) ⟨rfl, rfl⟩
                   have hth : ∀ u : St, Ig u (.bl m 1 0 l.length (l.length, true)) = some (.bl m 1 0 l.length (l.length, true), u) := fun _ => rfl
                   have hcnt : (flatK (l.take i) ++ g.kids.take c).count (j : Int) < 2 ^ 62 := by
                    have a1 := List.count_le_length (a := (j : Int)) (l := flatK (l.take i) ++ g.kids.take c)
                    have a2 := Wr l (i + 1)
                    rw [IQ hg] at a2
                    simp only [List.length_append, List.length_take] at a1 a2
                    omega
                   have hw3 := Ax (show (flatK (l.take i) ++ g.kids.take c).count (j : Int) + 1 < 2 ^ 63 by omega)
                   simp only [go_sem, AD, AA, AC, AB, KB_n, KB_x, Nat.reduceBEq, Nat.reduceAdd, Nat.reduceLT, Nat.reduceLeDiff, Nat.reduceEqDiff, reduceIte, Int.reduceEq, reduceCtorEq, g0, g3, g21, g22, g23, g4, g32, g33, g34, fx, zx, List.length_map, c1, AK, hk2, Fe, DW, e1, e2, hlt, Nat.zero_add, Nat.mul_one, lj, hth, hw3, d2, hw2]
                   rw [Wn hj] at H2
                   have htk : g.kids.take (c + 1) = g.kids.take c ++ [(j : Int)] := by rw [List.take_add_one, hk]; rfl
                   refine ⟨y - 1, by omega, c + 1, by omega, ?_, ?_, ?_⟩
                   · rw [htk, ← List.append_assoc]; exact H2
                   · intro k' hk'
                     rw [htk] at hk'
                     rcases List.mem_append.1 hk' with h' | h'
                     · exact hfk k' h'
                     · rw [List.mem_singleton] at h'; subst h'; omega
                   rfl
             · have c1 : ((c : Int) < (g.kids.length : Int)) = False := eq_false (by omega)
               have htc : g.kids.take c = g.kids := List.take_of_length_le (by omega)
               rw [htc] at H hfk
               rw [← IQ hg] at H
               simp only [go_sem, AD, AA, AC, AB, KB_n, KB_x, Nat.reduceBEq, Nat.reduceAdd, Nat.reduceLT, Nat.reduceLeDiff, Nat.reduceEqDiff, reduceIte, Int.reduceEq, reduceCtorEq, g0, g3, g21, g22, g23, g4, g32, g33, g34, c1, hw1]
               refine ⟨x - 1, by omega, i + 1, by omega, H.dropB, fun a g' ha hg' => ?_, rfl, rfl, rfl⟩
               rcases Nat.lt_or_ge a i with hlt | hge
               · exact hfi a g' hlt hg'
               · obtain rfl : a = i := by omega
                 rw [hg] at hg'; cases hg'
                 exact ⟨ho1, hfk⟩
           · simp only [go_sem, AD, AA, AC, AB, KB_n, KB_x, Nat.reduceBEq, Nat.reduceAdd, Nat.reduceLT, Nat.reduceLeDiff, Nat.reduceEqDiff, reduceIte, Int.reduceEq, reduceCtorEq]
             refine ⟨0, by omega, ?_, fun k hk => by simp at hk, ?_⟩
             · rw [List.take_zero, List.append_nil]; exact H1
             exact ⟨g0, g3, g21, g22, g23, rfl, rfl⟩
       · have h1 : ((i : Int) < (l.length : Int)) = False := eq_false (by omega)
         rw [List.take_of_length_le (by omega)] at H
         have hs : Bj q false 1 (.bl m 1 0 l.length (l.length, true)) (some (.i .i64 1)) none none = some (.bl m 1 1 (l.length - 1) (l.length, true), q) := by
          have hbd : Ch l.length (some (.i .i64 1)) none = some (1, l.length) := by
           show (if 1 ≤ l.length ∧ l.length ≤ l.length then some (1, l.length) else none) = _
           rw [if_pos ⟨by omega, by omega⟩]
          simp only [Bj, Option.isSome_none, if_true, Bool.false_eq_true, if_false, hbd]
         have hbx := H.box (i := 0) rfl
         have hc := K8 ((List.range (l.length - 1)).map fun j : Nat => ((cntK l ((j : Int) + 1) : Nat) : Int)) (by simp; omega) HK [] (fun z => decide (z ≠ 1)) q H.wf (id := m) (off := 1) (p := (l.length, true)) hbx.2.2 hbx.1 (fun j z hz => by
          rw [List.getElem?_map] at hz
          have hj : j < l.length - 1 := by
           by_cases hj : j < l.length - 1
           · exact hj
           · rw [List.getElem?_eq_none (by simpa using hj)] at hz; cases hz
          rw [List.getElem?_range hj] at hz
          cases hz
          rw [JZ (show 1 + j < l.length by omega), show (((1 + j : Nat) : Int)) = (j : Int) + 1 by omega]
          rfl) (fun z _ => Y1 z q.enter)
         rw [List.length_map, List.length_range] at hc
         simp only [go_sem, AD, AA, AC, AB, KB_n, KB_x, Nat.reduceBEq, Nat.reduceAdd, Nat.reduceLT, Nat.reduceLeDiff, Nat.reduceEqDiff, reduceIte, Int.reduceEq, reduceCtorEq, g0, g3, g21, g22, g23, h1, hs, hc]
         refine AI H.over rfl ?_
         have hfin : mayP l = Ph l := by
          rw [hl0]
          exact Wp hi fun a g hg => by rw [← hl0] at hg ⊢; exact hfi a g (by have := (List.getElem?_eq_some_iff.1 hg).1; omega) hg
         rw [hfin, Wq l hpos]
         rfl
     · simp only [go_sem, AD, AA, AC, AB, KB_n, KB_x, Nat.reduceBEq, Nat.reduceAdd, Nat.reduceLT, Nat.reduceLeDiff, Nat.reduceEqDiff, reduceIte, Int.reduceEq, reduceCtorEq]
       exact ⟨0, by omega, H0, fun a g ha => by omega, rfl, rfl, rfl⟩
end Go.Proofs.YtbfgoopcnkeblaaGreat

namespace Go.Proofs.YtbfgoopcnkeblaaGreat
open Go.Proofs.YtbfgoopcnkeblaaGreat.Am
theorem Ws (f : FT) (t : List FT) : mayP (f :: t) = (f.isDir && ((f :: t).all FT.one && (decide ((flatK (f :: t)).length = (f :: t).length - 1) && upB (f :: t)))) := by
 rw [mayP, Ur (f :: t) (by simp)]

theorem Po : ∀ G : List (List AV), GB (G.map AV.agg) = G.flatten
 | [] => rfl
 | c :: G => by
   simp only [List.map_cons, GB, Po G, List.flatten_cons]
   rfl
def Ro (l : List FT) (n : Int) : Int := if mayP l then (if 0 ≤ n ∧ n < (l.length : Int) then 0 else 1) else 4
def dirE (l : List FT) (n : Int) : Int := if Ro l n = 0 then (match l[n.toNat]? with | some f => if f.isDir then 0 else 1 | none => 0) else Ro l n

section
variable {s0 s : St} {n : En} {R : List RA} {B : List (Nat × Box)}
end
theorem Y2 (f : FT) : wkZ [CT.id, .id, (.sl 1 .id), (.sl 1 .id), .id, .id] f.cells = f.cells := by
 simp only [FT.cells, wkZ, wk, zx, tx]
theorem Y3 (l : List FT) : (l.map FT.cells).map AV.agg = l.map FT.av := by
 rw [List.map_map]; rfl
end Go.Proofs.YtbfgoopcnkeblaaGreat

namespace Go.Proofs.YtbfgoopcnkeblaaGreat
open Go.Proofs.YtbfgoopcnkeblaaGreat.Am
section
variable {s0 s : St} {n : En} {R : List RA} {B : List (Nat × Box)}
theorem _root_.Go.Proofs.YtbfgoopcnkeblaaGreat.Am.Hp.slc (H : Hp s0 s n R B) (i : Nat) {es T : Nat} {a : AV} {xs : List AV} {fr : Bool} (h : R[i]? = some ⟨es, T, a, xs, fr⟩) {lo hi : Option AV} {p q : Nat} (hb : Ch xs.length lo hi = some (p, q)) :
    ∃ a' s', Bj s false es a lo hi none = some (a', s') ∧ elems s' es a' = some ((xs.drop p).take (q - p)) ∧ (CN es a' ((xs.drop p).take (q - p)) ∨ (a' = a ∧ (xs.drop p).take (q - p) = xs)) ∧ (∃ fr', Hp s0 s' n (R.set i ⟨es, T, a, xs, fr'⟩) B) ∧ s'.nb = s.nb := by
 have hself : R.set i ⟨es, T, a, xs, fr⟩ = R := by
  apply List.ext_getElem?
  intro j
  rw [List.getElem?_set]
  by_cases hj : i = j
  · subst hj
    rw [if_pos rfl, if_pos (List.getElem?_eq_some_iff.1 h).1, h]
  · rw [if_neg hj]
 have hH : ∃ fr', Hp s0 s n (R.set i ⟨es, T, a, xs, fr'⟩) B := ⟨fr, by rw [hself]; exact H⟩
 have hbl : ∀ {p q : Nat}, Ch 0 lo hi = some (p, q) → p = 0 ∧ q = 0 := by
  intro p q hh
  unfold Ch at hh
  simp only at hh
  split at hh
  · split at hh
    · rename_i hq
      cases hh
      omega
    · cases hh
  · cases hh
 rcases H.rows h with (⟨h1, h2⟩ | ⟨h1, h2⟩ | h1 | h1) | ⟨k, v, t, ha, k1, k2, k3, k4, k5, k6, k7⟩
 · simp only at h1 h2; subst h1; subst h2
   rw [List.length_nil] at hb
   obtain ⟨rfl, rfl⟩ := hbl hb
   exact ⟨.nsl, s, by simp only [Bj, hb], rfl, .inl (.inl ⟨rfl, rfl⟩), hH, rfl⟩
 · simp only at h1 h2; subst h1; subst h2
   rw [List.length_nil] at hb
   obtain ⟨rfl, rfl⟩ := hbl hb
   exact ⟨.wz, s, by simp only [Bj, hb], rfl, .inl (.inr (.inl ⟨rfl, rfl⟩)), hH, rfl⟩
 · simp only at h1; subst h1
   by_cases hw : p = 0 ∧ q = xs.length
   · have hys : (xs.drop p).take (q - p) = xs := by rw [hw.1, hw.2]; simp
     refine ⟨.sl es xs .full, s, ?_, ?_, .inr ⟨rfl, hys⟩, hH, rfl⟩
     · simp only [Bj, if_true, hb]
       rw [if_pos hw]
     · rw [hys]; simp [elems, St.ok]
   · by_cases hq : q = xs.length
     · refine ⟨.sl es ((xs.drop p).take (q - p)) .full, s, ?_, by simp [elems, St.ok], .inl (.inr (.inr (.inl rfl))), hH, rfl⟩
       simp only [Bj, if_true, hb]
       rw [if_neg hw, if_pos hq]
     · refine ⟨.sl es ((xs.drop p).take (q - p)) .shut, s, ?_, by simp [elems, St.ok], .inl (.inr (.inr (.inr (.inl rfl)))), hH, rfl⟩
       simp only [Bj, if_true, hb]
       rw [if_neg hw, if_neg hq]
 · simp only at h1; subst h1
   by_cases hw : p = 0 ∧ q = xs.length
   · have hys : (xs.drop p).take (q - p) = xs := by rw [hw.1, hw.2]; simp
     refine ⟨.ws true es xs, s, ?_, ?_, .inr ⟨rfl, hys⟩, hH, rfl⟩
     · simp only [Bj, if_true, hb]
       rw [if_pos hw]
     · rw [hys]; simp [elems]
   · refine ⟨.ws false es ((xs.drop p).take (q - p)), s, ?_, by simp [elems], .inl (.inr (.inr (.inr (.inr (.inr rfl))))), hH, rfl⟩
     simp only [Bj, if_true, hb]
     rw [if_neg hw]
 · simp only at ha k5 k6 k7
   subst ha
   by_cases hw : p = 0 ∧ q = xs.length
   · have hys : (xs.drop p).take (q - p) = xs := by rw [hw.1, hw.2]; simp
     refine ⟨.sl es xs (.tok k v), s, ?_, ?_, .inr ⟨rfl, hys⟩, hH, rfl⟩
     · simp only [Bj, if_true, hb]
       rw [if_pos hw]
     · rw [hys]; simp [elems, St.ok, k3, k4]
   · refine ⟨.sl es ((xs.drop p).take (q - p)) .shut, s.setTok k { t with pub := max t.pub xs.length }, ?_, by simp [elems, St.ok], .inl (.inr (.inr (.inr (.inl rfl)))), ⟨false, ?_⟩, rfl⟩
     · simp only [Bj, if_true, hb, k3, k4, Bool.false_and, Bool.false_eq_true, if_false]
       rw [if_neg hw]
     · exact H.setTok h rfl k3 xs { t with pub := max t.pub xs.length } v false k4 k5 rfl (fun hh => by cases hh)
end
end Go.Proofs.YtbfgoopcnkeblaaGreat

namespace Go.Proofs.YtbfgoopcnkeblaaGreat
open Go.Proofs.YtbfgoopcnkeblaaGreat.Am
def besP (f : FT) : List Int := (HF f.kids).drop f.beside.toNat

def Us (l : List FT) (n : Int) (kind : Nat) : List FT × Int :=
 if Ro l n = 0 then (match l[n.toNat]? with
  | none => ([], 0)
  | some f => if f.known then ([], 6) else if 3 < kind then ([], 1) else (l.set n.toNat ⟨true, kind, [], [], 0, 0⟩, 0)) else ([], Ro l n)
def SY (l : List FT) (n : Int) : List FT × Int :=
 if dirE l n = 0 then (match l[n.toNat]? with
  | none => ([], 0)
  | some f => if f.rest = 1 then ([], 6) else (l.set n.toNat { f with rest := 2, beside := (f.names.length : Int) }, 0)) else ([], dirE l n)
def thereP (l : List FT) (f : FT) : Bool := (besP f).any fun k => match l[k.toNat]? with
 | some g => g.known && decide (g.kind ≠ 0)
 | none => false
def Rp (l : List FT) (n : Int) : List FT × Int :=
 if dirE l n = 0 then (match l[n.toNat]? with
  | none => ([], 0)
  | some f => if f.rest = 1 then ([], 6) else if f.rest = 2 ∧ thereP l f = false then ([], 67) else (l.set n.toNat { f with rest := 1, beside := 0 }, 0)) else ([], dirE l n)
theorem Ut {l : List FT} (h : mayP l = true) {f : FT} (hf : f ∈ l) : f.one = true := by
 cases l with
 | nil => cases hf
 | cons g t =>
   simp only [mayP, Bool.and_eq_true, List.all_eq_true] at h
   exact h.2.1 f hf



def Y4 (links : Bool) : Nat := if links then 3 else 2
def waysP (l : List FT) (n : Int) (empty links : Bool) : List (List FT) × Int :=
 if empty then (if (SY l n).2 = 0 then (if (Rp l n).2 = 0 then ([(Rp l n).1, (SY l n).1], 0) else ([(SY l n).1], 0)) else ([], (SY l n).2))
 else if (Us l n 0).2 = 0 then ((List.range (Y4 links + 1)).map fun k => (Us l n k).1, 0) else ([], (Us l n 0).2)
theorem wkM_F : ∀ l : List FT, wkM (.agg [.id, .id, (.sl 1 .id), (.sl 1 .id), .id, .id]) (l.map FT.av) = l.map FT.av
 | [] => by simp only [List.map_nil, wkM]
 | f :: l => by
   simp only [List.map_cons, wkM, wkM_F l, FT.av, wk, Y2 f]
theorem Iu {l : List FT} {a : AV} (h : CN 6 a (l.map FT.av)) : wk (.sl 6 (.agg [.id, .id, (.sl 1 .id), (.sl 1 .id), .id, .id])) a = fx l := h.wk (wkM_F l)

structure FOk (l : List FT) : Prop where
 ok : ∀ f ∈ l, f.Ok
 len : l.length < 2 ^ 34
 fl : (flatK l).length < 2 ^ 62
theorem Uu {l : List FT} {i : Nat} {f g : FT} (h : l[i]? = some f) (hk : g.kids.length ≤ f.kids.length) : (flatK (l.set i g)).length ≤ (flatK l).length := by
 have hlt := (List.getElem?_eq_some_iff.1 h).1
 have h1 : flatK l = flatK (l.take i) ++ f.kids ++ flatK (l.drop (i + 1)) := by
  rw [← IQ h]
  unfold flatK
  rw [← List.flatten_append, ← List.map_append, List.take_append_drop]
 have h2 : flatK (l.set i g) = flatK (l.take i) ++ g.kids ++ flatK (l.drop (i + 1)) := by
  rw [List.set_eq_take_append_cons_drop, if_pos hlt]
  unfold flatK
  simp
 rw [h1, h2]
 simp only [List.length_append]
 omega
theorem FOk.set {l : List FT} (H : FOk l) {i : Nat} {f g : FT} (h : l[i]? = some f) (hg : g.Ok) (hk : g.kids.length ≤ f.kids.length) : FOk (l.set i g) where
 ok := fun x hx => by
  rcases List.mem_or_eq_of_mem_set hx with hx | rfl
  · exact H.ok x hx
  · exact hg
 len := by rw [List.length_set]; exact H.len
 fl := Nat.lt_of_le_of_lt (Uu h hk) H.fl
theorem FOk.nil : FOk [] := ⟨fun f hf => by simp at hf, by simp, by simp [flatK]⟩
theorem FOk.know {l : List FT} (H : FOk l) (n : Int) {k : Nat} (hk : k < 256) : FOk (Us l n k).1 := by
 unfold Us
 split
 · split
   · exact .nil
   · rename_i f hf
     split
     · exact .nil
     · split
       · exact .nil
       · exact H.set hf ⟨hk, by simp, by simp, by simp⟩ (by simp)
 · exact .nil
theorem FOk.more {l : List FT} (H : FOk l) (n : Int) : FOk (SY l n).1 := by
 unfold SY
 split
 · split
   · exact .nil
   · rename_i f hf
     have hf' := H.ok f (List.mem_of_getElem? hf)
     split
     · exact .nil
     · exact H.set hf ⟨hf'.kind, hf'.names, hf'.nlen, hf'.klen⟩ (Nat.le_refl _)
 · exact .nil
theorem FOk.whole {l : List FT} (H : FOk l) (n : Int) : FOk (Rp l n).1 := by
 unfold Rp
 split
 · split
   · exact .nil
   · rename_i f hf
     have hf' := H.ok f (List.mem_of_getElem? hf)
     split
     · exact .nil
     · split
       · exact .nil
       · exact H.set hf ⟨hf'.kind, hf'.names, hf'.nlen, hf'.klen⟩ (Nat.le_refl _)
 · exact .nil
theorem FOk.ways {l : List FT} (H : FOk l) (n : Int) (empty links : Bool) : ∀ w ∈ (waysP l n empty links).1, FOk w := by
 unfold waysP
 intro w hw
 have hmk : Y4 links ≤ 3 := by unfold Y4; split <;> omega
 split at hw
 · split at hw
   · split at hw
     · simp only [List.mem_cons, List.not_mem_nil, or_false] at hw
       rcases hw with rfl | rfl
       · exact H.whole n
       · exact H.more n
     · simp only [List.mem_cons, List.not_mem_nil, or_false] at hw
       subst hw
       exact H.more n
   · simp at hw
 · split at hw
   · obtain ⟨k, hk, rfl⟩ := List.mem_map.1 hw
     rw [List.mem_range] at hk
     exact H.know n (by omega)
   · simp at hw
def OutA (s q : St) (a : AV) (l : List FT) : Prop := ∃ R, Hp s q s.en R [] ∧ (CN 6 a (l.map FT.av) ∨ ∃ fr, R[0]? = some ⟨6, 60, a, l.map FT.av, fr⟩)
theorem OutA.pub {s q : St} {a : AV} {l : List FT} (h : OutA s q a l) : ∃ a' q', Am.pub q a = some (a', q') ∧ pubA q a = some (a', q') ∧ CN 6 a' (l.map FT.av) ∧ (∃ R, Hp s q' s.en R []) := by
 obtain ⟨R, H, ht | ⟨fr, hR⟩⟩ := h
 · exact ⟨a, q, ht.pub q, ht.pubA q, ht, R, H⟩
 · obtain ⟨a', q', d, t, H', _⟩ := H.pub 0 hR
   refine ⟨a', q', d, ?_, t, _, H'⟩
   have := Nq (H.rows hR)
   simp only at this
   rw [this]
   exact d

attribute [local irreducible] W WO WE WQ WD Tr.get Tr.set
inductive ND.Ok : ND → Prop
 | mk {k : Nat} {t : List Nat} {ns : List (List Nat)} {ks : List ND} : k < 256 → Txt t → t.length < 2 ^ 62 → (∀ l ∈ ns, Txt l) → ns.length < 2 ^ 34 → ks.length < 2 ^ 34 → (∀ x ∈ ks, ND.Ok x) → ND.Ok (.mk k t ns ks)
theorem ND.Ok.kind {n : ND} (h : n.Ok) : n.kind < 256 := by cases h; assumption
theorem ND.Ok.text {n : ND} (h : n.Ok) : Txt n.text ∧ n.text.length < 2 ^ 62 := by cases h; exact ⟨by assumption, by assumption⟩
theorem ND.Ok.names {n : ND} (h : n.Ok) : (∀ l ∈ n.names, Txt l) ∧ n.names.length < 2 ^ 34 := by cases h; exact ⟨by assumption, by assumption⟩
theorem ND.Ok.kids {n : ND} (h : n.Ok) : (∀ k ∈ n.kids, k.Ok) ∧ n.kids.length < 2 ^ 34 := by cases h; exact ⟨by assumption, by assumption⟩
theorem IS (n : ND) : C8 n = if n.kind = 1 ∨ n.kind = 3 then decide (n.names = []) && (decide (n.kids.length = 0) && (decide (n.text.length ≤ 256) && (!n.text.contains 0 && (decide (n.kind = 1) || decide (n.text ≠ []))))) else
    if n.kind = 2 then decide (n.text = []) && (decide (n.names.length = n.kids.length) && Eg none n.names n.kids) else false := by
 cases n with
 | mk k t ns ks => rw [C8]; rfl
theorem Km {L : List (List Nat)} {i : Nat} {y : List Nat} (h : L[i]? = some y) : (L.take (i + 1)).getLast? = some y := by
 rw [List.take_add_one, h]
 simp
theorem ON : ∀ n : ND, n.Ok → ∀ s, Wf s → (lim prog).call DH [.agg n.cells] s = some (.b (C8 n), s) := by
 refine ND.ind fun n ih ho s hw => ?_
 refine fn_W Ki rfl rfl ?_
 have H1 := (Hp.begin hw).new (.cells 30 n.cells)
 generalize hq : s.enter.new (.cells 30 n.cells) = q at H1
 generalize hm : s.enter.nb = m at H1
 have l0 := H1.ld 0 (off := 0) (v := .i .u8 (n.kind : Nat)) rfl rfl
 have l1 := H1.ld 0 (off := 1) (v := .s n.text) rfl rfl
 have l2 := H1.ld 0 (off := 2) (v := tx n.names) rfl rfl
 have l3 := H1.ld 0 (off := 3) (v := .ws false 4 (n.kids.map ND.av)) rfl rfl
 have hz0 : wkZ A1.cin [.agg n.cells] = [.agg n.cells] := by simp [A1, wkZ, wk, ND.cells]
 rw [hz0, IS]
 have hbr : ∀ b, KR s [.id] (.b b) (some ([.b b], q)) := fun b => AI H1.over rfl rfl
 have hib := GK n.text 0 (by omega) q
 have hi0 := idxB0 n.text 0
 by_cases c1 : n.kind = 1 ∨ n.kind = 3
 · rw [if_pos c1]
   have hsum : IntKind.i64.wrap ((n.names.length : Int) + (n.kids.length : Int)) = ((n.names.length + n.kids.length : Nat) : Int) := by
    rw [show (n.names.length : Int) + (n.kids.length : Int) = ((n.names.length + n.kids.length : Nat) : Int) by omega]
    exact Cz (by have := ho.names.2; have := ho.kids.2; omega)
   have hib : (lim prog).call CA [AV.s n.text, AV.i IntKind.u8 0] q = some (AV.i IntKind.i64 (idxB 0 0 n.text), q) := hib
   by_cases k1 : n.kind = 1
   · have e1 : ((n.kind : Int) = 1) = True := eq_true (by omega)
     have e2 : True := trivial
     by_cases d1 : n.names.length + n.kids.length = 0
     · have f1 : (((n.names.length + n.kids.length : Nat) : Int) = 0) = True := eq_true (by omega)
       have g1 : n.names = [] := List.length_eq_zero_iff.1 (by omega)
       have g2 : n.kids.length = 0 := by omega
       by_cases d2 : n.text.length ≤ 256
       · have f2 : ((n.text.length : Int) ≤ 256) = True := eq_true (by omega)
         by_cases d3 : idxB 0 0 n.text < 0
         · have f3 : (idxB 0 0 n.text < 0) = True := by simp only [eq_iff_iff, iff_true]; exact d3
           rw [decide_eq_true d3] at hi0
           rw [← hi0, decide_eq_true g1, decide_eq_true g2, decide_eq_true d2, decide_eq_true k1]
           simp only [A1, go_sem, AD, AA, AC, AB, KB_n, KB_x, Nat.reduceBEq, Nat.reduceAdd, Nat.reduceLT, Nat.reduceLeDiff, Nat.reduceEqDiff, reduceIte, Int.reduceEq, reduceCtorEq, Af, hq, hm, l0, l1, l2, l3, Nat.zero_add, e1, List.length_map, hsum, f1, f2, hib, f3]
           exact hbr _
         · have f3 : (idxB 0 0 n.text < 0) = False := by simp only [eq_iff_iff, iff_false]; exact d3
           rw [decide_eq_false d3] at hi0
           rw [← hi0]
           simp only [A1, go_sem, AD, AA, AC, AB, KB_n, KB_x, Nat.reduceBEq, Nat.reduceAdd, Nat.reduceLT, Nat.reduceLeDiff, Nat.reduceEqDiff, reduceIte, Int.reduceEq, reduceCtorEq, Af, hq, hm, l0, l1, l2, l3, Nat.zero_add, e1, e2, List.length_map, hsum, f1, f2, hib, f3, Bool.false_and, Bool.and_false]
           exact hbr _
       · have f2 : ((n.text.length : Int) ≤ 256) = False := eq_false (by omega)
         simp only [A1, go_sem, AD, AA, AC, AB, KB_n, KB_x, Nat.reduceBEq, Nat.reduceAdd, Nat.reduceLT, Nat.reduceLeDiff, Nat.reduceEqDiff, reduceIte, Int.reduceEq, reduceCtorEq, Af, hq, hm, l0, l1, l2, l3, Nat.zero_add, e1, e2, List.length_map, hsum, f1, f2, decide_eq_false d2, Bool.false_and, Bool.and_false]
         exact hbr _
     · have f1 : (((n.names.length + n.kids.length : Nat) : Int) = 0) = False := eq_false (by omega)
       have : (decide (n.names = []) && (decide (n.kids.length = 0) && (decide (n.text.length ≤ 256) && (!n.text.contains 0 && (decide (n.kind = 1) || decide (n.text ≠ [])))))) = false := by
        by_cases g1 : n.names = []
        · have g2 : n.kids.length ≠ 0 := by intro h; exact d1 (by rw [g1, h]; rfl)
          simp [g2]
        · simp [g1]
       rw [this]
       simp only [A1, go_sem, AD, AA, AC, AB, KB_n, KB_x, Nat.reduceBEq, Nat.reduceAdd, Nat.reduceLT, Nat.reduceLeDiff, Nat.reduceEqDiff, reduceIte, Int.reduceEq, reduceCtorEq, Af, hq, hm, l0, l1, l2, l3, Nat.zero_add, e1, e2, List.length_map, hsum, f1]
       exact hbr _
   · have e1 : ((n.kind : Int) = 1) = False := eq_false (by omega)
     have e2 : ((n.kind : Int) = 3) = True := eq_true (by omega)
     by_cases d1 : n.names.length + n.kids.length = 0
     · have f1 : (((n.names.length + n.kids.length : Nat) : Int) = 0) = True := eq_true (by omega)
       have g1 : n.names = [] := List.length_eq_zero_iff.1 (by omega)
       have g2 : n.kids.length = 0 := by omega
       by_cases d2 : n.text.length ≤ 256
       · have f2 : ((n.text.length : Int) ≤ 256) = True := eq_true (by omega)
         by_cases d3 : idxB 0 0 n.text < 0
         · have f3 : (idxB 0 0 n.text < 0) = True := by simp only [eq_iff_iff, iff_true]; exact d3
           rw [decide_eq_true d3] at hi0
           rw [← hi0, decide_eq_true g1, decide_eq_true g2, decide_eq_true d2, decide_eq_false k1]
           by_cases d4 : n.text = []
           · have f4 : (n.text ≠ []) = False := by simp [d4]
             simp only [A1, go_sem, AD, AA, AC, AB, KB_n, KB_x, Nat.reduceBEq, Nat.reduceAdd, Nat.reduceLT, Nat.reduceLeDiff, Nat.reduceEqDiff, reduceIte, Int.reduceEq, reduceCtorEq, Af, hq, hm, l0, l1, l2, l3, Nat.zero_add, e1, e2, List.length_map, hsum, f1, f2, hib, f3, f4, Bool.or_false]
             exact hbr _
           · have f4 : (n.text ≠ []) = True := by simp [d4]
             simp only [A1, go_sem, AD, AA, AC, AB, KB_n, KB_x, Nat.reduceBEq, Nat.reduceAdd, Nat.reduceLT, Nat.reduceLeDiff, Nat.reduceEqDiff, reduceIte, Int.reduceEq, reduceCtorEq, Af, hq, hm, l0, l1, l2, l3, Nat.zero_add, e1, e2, List.length_map, hsum, f1, f2, hib, f3, f4]
             exact hbr _
         · have f3 : (idxB 0 0 n.text < 0) = False := by simp only [eq_iff_iff, iff_false]; exact d3
           rw [decide_eq_false d3] at hi0
           rw [← hi0]
           simp only [A1, go_sem, AD, AA, AC, AB, KB_n, KB_x, Nat.reduceBEq, Nat.reduceAdd, Nat.reduceLT, Nat.reduceLeDiff, Nat.reduceEqDiff, reduceIte, Int.reduceEq, reduceCtorEq, Af, hq, hm, l0, l1, l2, l3, Nat.zero_add, e1, e2, List.length_map, hsum, f1, f2, hib, f3, Bool.false_and, Bool.and_false]
           exact hbr _
       · have f2 : ((n.text.length : Int) ≤ 256) = False := eq_false (by omega)
         simp only [A1, go_sem, AD, AA, AC, AB, KB_n, KB_x, Nat.reduceBEq, Nat.reduceAdd, Nat.reduceLT, Nat.reduceLeDiff, Nat.reduceEqDiff, reduceIte, Int.reduceEq, reduceCtorEq, Af, hq, hm, l0, l1, l2, l3, Nat.zero_add, e1, e2, List.length_map, hsum, f1, f2, decide_eq_false d2, Bool.false_and, Bool.and_false]
         exact hbr _
     · have f1 : (((n.names.length + n.kids.length : Nat) : Int) = 0) = False := eq_false (by omega)
       have : (decide (n.names = []) && (decide (n.kids.length = 0) && (decide (n.text.length ≤ 256) && (!n.text.contains 0 && (decide (n.kind = 1) || decide (n.text ≠ [])))))) = false := by
        by_cases g1 : n.names = []
        · have g2 : n.kids.length ≠ 0 := by intro h; exact d1 (by rw [g1, h]; rfl)
          simp [g2]
        · simp [g1]
       rw [this]
       simp only [A1, go_sem, AD, AA, AC, AB, KB_n, KB_x, Nat.reduceBEq, Nat.reduceAdd, Nat.reduceLT, Nat.reduceLeDiff, Nat.reduceEqDiff, reduceIte, Int.reduceEq, reduceCtorEq, Af, hq, hm, l0, l1, l2, l3, Nat.zero_add, e1, e2, List.length_map, hsum, f1]
       exact hbr _
 · rw [if_neg c1]
   by_cases c2 : n.kind = 2
   · rw [if_pos c2]
     have e1 : ((n.kind : Int) = 1) = False := eq_false (by omega)
     have e2 : ((n.kind : Int) = 3) = False := eq_false (by omega)
     have e3 : ((n.kind : Int) = 2) = True := eq_true (by omega)
     by_cases d1 : n.text = []
     · have f1 : (n.text ≠ []) = False := by simp [d1]
       by_cases d2 : n.names.length = n.kids.length
       · have f2 : ((n.names.length : Int) ≠ (n.kids.length : Int)) = False := by simp only [ne_eq, eq_iff_iff, iff_false]; omega
         rw [decide_eq_true d1, decide_eq_true d2]
         simp only [A1, go_sem, AD, AA, AC, AB, KB_n, KB_x, Nat.reduceBEq, Nat.reduceAdd, Nat.reduceLT, Nat.reduceLeDiff, Nat.reduceEqDiff, reduceIte, Int.reduceEq, reduceCtorEq, Af, hq, hm, l0, l1, l2, l3, Nat.zero_add, e1, e2, e3, List.length_map, f1, f2]
         refine CI (fun x e q => ∃ i : Nat, i + x = n.names.length ∧ Hp s q s.en [] [(m, .cells 30 n.cells)] ∧ Eg none (n.names.take i) (n.kids.take i) = true ∧ e.get 1 = .p m 0 ∧ e.get 55 = tx n.names ∧ e.get 56 = .i .i64 (n.names.length : Nat) ∧ e.get 57 = .i .i64 (i : Nat)) ?_ n.names.length _ _ ?_
         · rintro x e q' ⟨i, hi, H, hwl, g1, g55, g56, g57⟩
           have l2 := H.ld 0 (off := 2) (v := tx n.names) rfl rfl
           have l3 := H.ld 0 (off := 3) (v := .ws false 4 (n.kids.map ND.av)) rfl rfl
           have hbr : ∀ b, KR s [.id] (.b b) (some ([.b b], q')) := fun b => AI H.over rfl rfl
           have hnl := ho.names.2
           by_cases h : i < n.names.length
           · have h1 : ((i : Int) < (n.names.length : Int)) = True := eq_true (by omega)
             obtain ⟨y, hy⟩ : ∃ y, n.names[i]? = some y := ⟨_, List.getElem?_eq_getElem h⟩
             obtain ⟨k, hk⟩ : ∃ k, n.kids[i]? = some k := ⟨_, List.getElem?_eq_getElem (by omega)⟩
             have hy2 : (n.names.map AV.s)[i]? = some (.s y) := by rw [List.getElem?_map, hy]; rfl
             have hk2 := Hw hk
             have hkm : k ∈ n.kids := List.mem_of_getElem? hk
             have hym : y ∈ n.names := List.mem_of_getElem? hy
             have hnm := Qx y (ho.names.1 y hym) q' H.wf
             have hkc := ih k hkm (ho.kids.1 k hkm) q' H.wf
             have hld : ldA q' true 4 (.ep k.cells 0 .shut) = some (.agg k.cells) := rfl
             have hw1 := Ax (show i + 1 < 2 ^ 63 by omega)
             have htk : n.names.take (i + 1) = n.names.take i ++ [y] := by rw [List.take_add_one, hy]; rfl
             have htk2 : n.kids.take (i + 1) = n.kids.take i ++ [k] := by rw [List.take_add_one, hk]; rfl
             have hsn := KP none (n.names.take i) (n.kids.take i) y k (by rw [List.length_take, List.length_take]; omega)
             rw [← htk, ← htk2, hwl, Bool.true_and] at hsn
             have hno : Eg none (n.names.take (i + 1)) (n.kids.take (i + 1)) = false → Eg none n.names n.kids = false := fun hf => by
              rw [Bool.eq_false_iff]
              intro ht
              rw [KT n none n.names n.kids (i + 1) ht] at hf
              cases hf
             cases hn1 : HQ y with
             | false =>
               rw [hn1] at hnm hsn
               rw [hno hsn]
               simp only [go_sem, AD, AA, AC, AB, KB_n, KB_x, Nat.reduceBEq, Nat.reduceAdd, Nat.reduceLT, Nat.reduceLeDiff, Nat.reduceEqDiff, reduceIte, Int.reduceEq, reduceCtorEq, g1, g55, g56, g57, h1, AK, hy2, Bi, DW, hnm]
               exact hbr _
             | true =>
             rw [hn1] at hnm hsn
             cases i with
             | zero =>
               have h2 : ((0 : Int) < ((0 : Nat) : Int)) = False := by simp
               have hsn : Eg none (n.names.take (0 + 1)) (n.kids.take (0 + 1)) = C8 k := by rw [hsn]; simp
               cases hwk : C8 k with
               | false =>
                 rw [hwk] at hkc hsn
                 rw [hno hsn]
                 simp only [go_sem, AD, AA, AC, AB, KB_n, KB_x, Nat.reduceBEq, Nat.reduceAdd, Nat.reduceLT, Nat.reduceLeDiff, Nat.reduceEqDiff, reduceIte, Int.reduceEq, reduceCtorEq, g1, g55, g56, g57, h1, AK, hy2, Bi, DW, hnm, h2, l3, hk2, hld, AU, hkc, Nat.zero_add]
                 exact hbr _
               | true =>
                 rw [hwk] at hkc hsn
                 simp only [go_sem, AD, AA, AC, AB, KB_n, KB_x, Nat.reduceBEq, Nat.reduceAdd, Nat.reduceLT, Nat.reduceLeDiff, Nat.reduceEqDiff, reduceIte, Int.reduceEq, reduceCtorEq, g1, g55, g56, g57, h1, AK, hy2, Bi, DW, hnm, h2, l3, hk2, hld, AU, hkc, hw1]
                 exact ⟨x - 1, by omega, 0 + 1, by omega, H, hsn, rfl⟩
             | succ i =>
               have h2 : ((0 : Int) < ((i + 1 : Nat) : Int)) = True := eq_true (by omega)
               obtain ⟨z, hz⟩ : ∃ z, n.names[i]? = some z := ⟨_, List.getElem?_eq_getElem (by omega)⟩
               have hz2 : (n.names.map AV.s)[i]? = some (.s z) := by rw [List.getElem?_map, hz]; rfl
               have hsb : IntKind.i64.wrap (((i + 1 : Nat) : Int) - 1) = (i : Int) := by
                rw [show ((i + 1 : Nat) : Int) - 1 = (i : Int) by omega]; exact Cz (by omega)
               rw [Km hz] at hsn
               have hsn : Eg none (n.names.take (i + 1 + 1)) (n.kids.take (i + 1 + 1)) = (ltN z y && C8 k) := by rw [hsn]; simp
               have hle : (ltN y z || beqN y z) = !ltN z y := Ja y z
               cases hzy : ltN z y with
               | false =>
                 rw [hzy] at hle hsn
                 rw [hno hsn]
                 simp only [go_sem, AD, AA, AC, AB, KB_n, KB_x, Nat.reduceBEq, Nat.reduceAdd, Nat.reduceLT, Nat.reduceLeDiff, Nat.reduceEqDiff, reduceIte, Int.reduceEq, reduceCtorEq, g1, g55, g56, g57, h1, AK, hy2, Bi, DW, hnm, h2, l2, hsb, hz2, Kl, hle, Nat.zero_add]
                 exact hbr _
               | true =>
                 rw [hzy] at hle hsn
                 cases hwk : C8 k with
                 | false =>
                   rw [hwk] at hkc hsn
                   rw [hno hsn]
                   simp only [go_sem, AD, AA, AC, AB, KB_n, KB_x, Nat.reduceBEq, Nat.reduceAdd, Nat.reduceLT, Nat.reduceLeDiff, Nat.reduceEqDiff, reduceIte, Int.reduceEq, reduceCtorEq, g1, g55, g56, g57, h1, AK, hy2, Bi, DW, hnm, h2, l2, hsb, hz2, Kl, hle, l3, hk2, hld, AU, hkc, Nat.zero_add]
                   exact hbr _
                 | true =>
                   rw [hwk] at hkc hsn
                   simp only [go_sem, AD, AA, AC, AB, KB_n, KB_x, Nat.reduceBEq, Nat.reduceAdd, Nat.reduceLT, Nat.reduceLeDiff, Nat.reduceEqDiff, reduceIte, Int.reduceEq, reduceCtorEq, g1, g55, g56, g57, h1, AK, hy2, Bi, DW, hnm, h2, l2, hsb, hz2, Kl, hle, l3, hk2, hld, AU, hkc, hw1, Nat.zero_add]
                   exact ⟨x - 1, by omega, i + 1 + 1, by omega, H, hsn, rfl⟩
           · have h1 : ((i : Int) < (n.names.length : Int)) = False := eq_false (by omega)
             rw [List.take_of_length_le (by omega), List.take_of_length_le (by omega)] at hwl
             rw [hwl]
             simp only [go_sem, AD, AA, AC, AB, KB_n, KB_x, Nat.reduceBEq, Nat.reduceAdd, Nat.reduceLT, Nat.reduceLeDiff, Nat.reduceEqDiff, reduceIte, Int.reduceEq, reduceCtorEq, g1, g55, g56, g57, h1]
             exact hbr _
         · simp only [go_sem, AD, AA, AC, AB, KB_n, KB_x, Nat.reduceBEq, Nat.reduceAdd, Nat.reduceLT, Nat.reduceLeDiff, Nat.reduceEqDiff, reduceIte, Int.reduceEq, reduceCtorEq]
           exact ⟨0, by omega, H1, by simp [Eg], rfl⟩
       · have f2 : ((n.names.length : Int) ≠ (n.kids.length : Int)) = True := by simp only [ne_eq, eq_iff_iff, iff_true]; omega
         rw [decide_eq_true d1, decide_eq_false d2]
         simp only [A1, go_sem, AD, AA, AC, AB, KB_n, KB_x, Nat.reduceBEq, Nat.reduceAdd, Nat.reduceLT, Nat.reduceLeDiff, Nat.reduceEqDiff, reduceIte, Int.reduceEq, reduceCtorEq, Af, hq, hm, l0, l1, l2, l3, Nat.zero_add, e1, e2, e3, List.length_map, f1, f2]
         exact hbr _
     · have f1 : (n.text ≠ []) = True := by simp [d1]
       rw [decide_eq_false d1]
       simp only [A1, go_sem, AD, AA, AC, AB, KB_n, KB_x, Nat.reduceBEq, Nat.reduceAdd, Nat.reduceLT, Nat.reduceLeDiff, Nat.reduceEqDiff, reduceIte, Int.reduceEq, reduceCtorEq, Af, hq, hm, l0, l1, l2, l3, Nat.zero_add, e1, e2, e3, List.length_map, f1]
       exact hbr _
   · rw [if_neg c2]
     have e1 : ((n.kind : Int) = 1) = False := eq_false (by omega)
     have e2 : ((n.kind : Int) = 3) = False := eq_false (by omega)
     have e3 : ((n.kind : Int) = 2) = False := eq_false (by omega)
     simp only [A1, go_sem, AD, AA, AC, AB, KB_n, KB_x, Nat.reduceBEq, Nat.reduceAdd, Nat.reduceLT, Nat.reduceLeDiff, Nat.reduceEqDiff, reduceIte, Int.reduceEq, reduceCtorEq, Af, hq, hm, l0, Nat.zero_add, e1, e2, e3]
     exact hbr _

def mayN (n : ND) : Bool := decide (n.kind = 2) && (C8 n && (decide (nodesN n ≤ 1024) && decide (deepN n ≤ 24)))
theorem Qt (n : ND) (ho : n.Ok) (hb : nodesN n < 2 ^ 62) (s : St) (hw : Wf s) : (lim prog).call Fw [.agg n.cells] s = some (.b (mayN n), s) := by
 refine fn_W Qg rfl rfl ?_
 have H1 := (Hp.begin hw).new (.cells 30 n.cells)
 generalize hq : s.enter.new (.cells 30 n.cells) = q at H1
 generalize hm : s.enter.nb = m at H1
 have l0 := H1.ld 0 (off := 0) (v := .i .u8 (n.kind : Nat)) rfl rfl
 have l1 := H1.ldw 0 (m := 4) rfl rfl
 have hz0 : wkZ Cj.cin [.agg n.cells] = [.agg n.cells] := by simp [Cj, wkZ, wk, ND.cells]
 rw [hz0]
 have h1 := ON n ho q H1.wf
 have h2 := Wy n hb q H1.wf
 have h3 := W0 n hb q H1.wf
 have hbr : ∀ b, KR s [.id] (.b b) (some ([.b b], q)) := fun b => AI H1.over rfl rfl
 unfold mayN
 by_cases c1 : n.kind = 2
 · have e1 : ((n.kind : Int) = 2) = True := eq_true (by omega)
   rw [decide_eq_true c1]
   cases c2 : C8 n with
   | false =>
     rw [c2] at h1
     simp only [Cj, go_sem, AD, AA, AC, AB, KB_n, KB_x, Nat.reduceBEq, Nat.reduceAdd, Nat.reduceLT, Nat.reduceLeDiff, Nat.reduceEqDiff, reduceIte, Int.reduceEq, reduceCtorEq, Af, hq, hm, l0, l1, Nat.zero_add, e1, AU, h1]
     exact hbr _
   | true =>
     rw [c2] at h1
     by_cases c3 : nodesN n ≤ 1024
     · have e3 : (((nodesN n : Nat) : Int) ≤ 1024) = True := eq_true (by omega)
       rw [decide_eq_true c3]
       by_cases c4 : deepN n ≤ 24
       · have e4 : (((deepN n : Nat) : Int) ≤ 24) = True := eq_true (by omega)
         rw [decide_eq_true c4]
         simp only [Cj, go_sem, AD, AA, AC, AB, KB_n, KB_x, Nat.reduceBEq, Nat.reduceAdd, Nat.reduceLT, Nat.reduceLeDiff, Nat.reduceEqDiff, reduceIte, Int.reduceEq, reduceCtorEq, Af, hq, hm, l0, l1, Nat.zero_add, e1, AU, h1, h2, h3, e3, e4]
         exact hbr _
       · have e4 : (((deepN n : Nat) : Int) ≤ 24) = False := eq_false (by omega)
         rw [decide_eq_false c4]
         simp only [Cj, go_sem, AD, AA, AC, AB, KB_n, KB_x, Nat.reduceBEq, Nat.reduceAdd, Nat.reduceLT, Nat.reduceLeDiff, Nat.reduceEqDiff, reduceIte, Int.reduceEq, reduceCtorEq, Af, hq, hm, l0, l1, Nat.zero_add, e1, AU, h1, h2, h3, e3, e4]
         exact hbr _
     · have e3 : (((nodesN n : Nat) : Int) ≤ 1024) = False := eq_false (by omega)
       rw [decide_eq_false c3]
       simp only [Cj, go_sem, AD, AA, AC, AB, KB_n, KB_x, Nat.reduceBEq, Nat.reduceAdd, Nat.reduceLT, Nat.reduceLeDiff, Nat.reduceEqDiff, reduceIte, Int.reduceEq, reduceCtorEq, Af, hq, hm, l0, l1, Nat.zero_add, e1, AU, h1, h2, h3, e3]
       exact hbr _
 · have e1 : ((n.kind : Int) = 2) = False := eq_false (by omega)
   rw [decide_eq_false c1]
   simp only [Cj, go_sem, AD, AA, AC, AB, KB_n, KB_x, Nat.reduceBEq, Nat.reduceAdd, Nat.reduceLT, Nat.reduceLeDiff, Nat.reduceEqDiff, reduceIte, Int.reduceEq, reduceCtorEq, Af, hq, hm, l0, l1, Nat.zero_add, e1]
   exact hbr _
theorem Ru (l : List ND) : AV.refs.go (l.map ND.av) = false := by
 induction l with
 | nil => rfl
 | cons a l il => simp only [List.map_cons, AV.refs.go, ML, il, Bool.or_self]
theorem le14 : (1 ≤ 4) = True := by simp
theorem al4 (k : ND) : Ar 4 [AV.agg k.cells] = true := rfl
theorem Xd (c : CT) (l : List ND) (hc : ∀ k ∈ l, wk c k.av = k.av) : wkM c (l.map ND.av) = l.map ND.av := by
 induction l with
 | nil => rfl
 | cons a l ih => simp only [List.map_cons, wkM, hc a (by simp), ih fun k hk => hc k (by simp [hk])]
theorem own_ok : ∀ n : ND, n.Ok → ∀ s, Wf s → (lim prog).call HL [.agg n.cells] s = some (.agg n.cells, s) := by
 refine ND.ind fun n ih ho s hw => ?_
 refine fn_W Ql rfl rfl ?_
 have H0 := (Hp.begin hw).new (.cells 30 n.cells)
 generalize hq : s.enter.new (.cells 30 n.cells) = q at H0
 generalize hm : s.enter.nb = m at H0
 have H1 := H0.new (.cells 30 [.i .u8 0, .s [], .nsl, .nsl])
 generalize hq1 : q.new (.cells 30 [.i .u8 0, .s [], .nsl, .nsl]) = q1 at H1
 generalize hm1 : q.nb = m1 at H1
 have l1 := H1.ld 1 (off := 2) (v := tx n.names) rfl rfl
 have hn := ho.names.2
 have hk := ho.kids.2
 obtain ⟨r, q2, d2, H2, _⟩ := OG H1 n.names (by omega)
 obtain ⟨q3, d3, H3, _⟩ := H2.st 1 (off := 2) (v := r) rfl (by simp [ND.cells]) ⟨(H2.rcells 0 rfl).1, (H2.rcells 0 rfl).2.1⟩
 have l2 := H3.ld 1 (off := 3) (v := .ws false 4 (n.kids.map ND.av)) rfl rfl
 have hz0 : wkZ EO.cin [.agg n.cells] = [.agg n.cells] := by simp [EO, wkZ, wk, ND.cells]
 rw [hz0]
 simp only [EO, go_sem, AD, AA, AC, AB, KB_n, KB_x, Nat.reduceBEq, Nat.reduceAdd, Nat.reduceLT, Nat.reduceLeDiff, Nat.reduceEqDiff, reduceIte, Int.reduceEq, reduceCtorEq, Af, hq, hm, hq1, hm1, l1, d2, d3, l2, Nat.zero_add, List.length_map]
 refine CI (fun x e q => ∃ (i : Nat) (a : AV), i + x = n.kids.length ∧ Hp s q s.en [⟨4, 30, a, (n.kids.take i).map ND.av, true⟩, ⟨1, 9, r, n.names.map .s, true⟩] [(m1, .cells 30 [.i .u8 0, .s [], .nsl, .nsl]), (m, .cells 30 [.i .u8 (n.kind : Nat), .s n.text, r, .ws false 4 (n.kids.map ND.av)])] ∧
  e.get 1 = .p m 0 ∧ e.get 2 = .p m1 0 ∧ e.get 3 = a ∧ e.get 11 = .ws false 4 (n.kids.map ND.av) ∧ e.get 12 = .i .i64 (n.kids.length : Nat) ∧ e.get 13 = .i .i64 (i : Nat)) ?_ n.kids.length _ _ ?_
 · rintro x e q' ⟨i, a, hi, H, g1, g2, g3, g11, g12, g13⟩
   by_cases h : i < n.kids.length
   · have e1 : ((i : Int) < (n.kids.length : Int)) = True := eq_true (by omega)
     obtain ⟨k, hk1⟩ : ∃ k, n.kids[i]? = some k := ⟨_, List.getElem?_eq_getElem h⟩
     have hmem : k ∈ n.kids := List.mem_of_getElem? hk1
     have hget := Hw hk1
     have H4 := H.new (.cells 30 [.i .u8 0, .s [], .nsl, .nsl])
     generalize hq4 : q'.new (.cells 30 [.i .u8 0, .s [], .nsl, .nsl]) = q4 at H4
     generalize hj : q'.nb = j at H4
     obtain ⟨q5, d5, H5, _⟩ := H4.stw 0 (v := .agg k.cells) (m := 4) rfl rfl ⟨Af k, GU k⟩
     have l3 := H5.ldw 0 (m := 4) rfl rfl
     have hc := ih k hmem (ho.kids.1 k hmem) q5 H5.wf
     obtain ⟨a', q6, d6, H6, _⟩ := H5.app 0 (y := .sl 4 [.agg k.cells] .full) (ys := [.agg k.cells]) rfl (by simp [elems, St.ok]) (by simp [List.length_take]; omega)
     have htk : (n.kids.take (i + 1)).map ND.av = (n.kids.take i).map ND.av ++ [.agg k.cells] := by
      rw [List.take_add_one, hk1]; simp [ND.av_eq]
     have hw1 := Ax (show i + 1 < 2 ^ 63 by omega)
     have hld : ldA q' true 4 (.ep k.cells 0 .shut) = some (.agg k.cells) := rfl
     simp only [go_sem, AD, AA, AC, AB, KB_n, KB_x, Nat.reduceBEq, Nat.reduceAdd, Nat.reduceLT, Nat.reduceLeDiff, Nat.reduceEqDiff, reduceIte, Int.reduceEq, reduceCtorEq, g1, g2, g3, g11, g12, g13, e1, AK, hget, hld, hq4, hj, d5, l3, hc, AU, al4, Yz, le14, d6, hw1]
     refine ⟨x - 1, by omega, i + 1, a', by omega, ?_, rfl, rfl⟩
     rw [htk]
     exact H6.sel [0, 1] [1, 2] (by simp) (by simp)
   · have e1 : ((i : Int) < (n.kids.length : Int)) = False := eq_false (by omega)
     obtain rfl : i = n.kids.length := by omega
     obtain ⟨q4, d4, H4, _⟩ := H.st 1 (off := 3) (v := a) rfl (by simp) ⟨(H.rcells 0 rfl).1, (H.rcells 0 rfl).2.1⟩
     have l5 : ldA q4 true 4 (.p m 0) = some (.agg [.i .u8 (n.kind : Nat), .s n.text, r, a]) := H4.ldw 1 (m := 4) rfl rfl
     obtain ⟨r', q5, d5, t5, H5, _⟩ := H4.pub 1 rfl
     obtain ⟨a', q6, d6, t6, H6, _⟩ := H5.pub 0 rfl
     obtain ⟨q7, d7, H7, _⟩ := H6.stw 0 (v := .agg [.i .u8 (n.kind : Nat), .s n.text, r', a']) (m := 4) rfl rfl ⟨rfl, by simp only [B4, Am.ones, t5.ones, t6.ones]⟩
     have l7 := H7.ldw 0 (m := 4) rfl rfl
     simp only [go_sem, AD, AA, AC, AB, KB_n, KB_x, Nat.reduceBEq, Nat.reduceAdd, Nat.reduceLT, Nat.reduceLeDiff, Nat.reduceEqDiff, reduceIte, Int.reduceEq, reduceCtorEq, g1, g2, g3, g11, g12, g13, e1, d4, l5, d5, d6, d7, l7, t5.frz, t6.frz, Nat.zero_add]
     refine AI H7.over ?_ ?_
     · simp only [BW, AV.refs, AV.refs.go, t5.refs (Ea _), t6.refs (Ru _), Bool.or_self]
     · rw [List.take_length] at t6
       have hc : ∀ (c : CT), ∀ k ∈ n.kids, wk (.agg [.id, .id, .sl 1 .id, .sl 4 c]) k.av = k.av := fun c k _ => by
        rw [ND.av_eq]; simp [wk, wkZ, ND.cells]
       simp only [BW, wkZ, wk, t5.wk (LZ _), t6.wk (Xd _ _ (hc _))]
       rfl
 · simp only [go_sem, AD, AA, AC, AB, KB_n, KB_x, Nat.reduceBEq, Nat.reduceAdd, Nat.reduceLT, Nat.reduceLeDiff, Nat.reduceEqDiff, reduceIte, Int.reduceEq, reduceCtorEq]
   exact ⟨0, .nsl, by omega, H3.addFull 4 30 true .nil, rfl, rfl⟩

mutual
def Ff : ND → Nat
 | .mk _ t ns ks => 4 + t.length + (ns.map fun l => 1 + l.length).sum + Vf ks
def Vf : List ND → Nat
 | [] => 0
 | k :: ks => Ff k + Vf ks
end
theorem P9 : ∀ l : List ND, Vf l = (l.map Ff).sum
 | [] => by simp [Vf]
 | k :: l => by simp only [Vf, P9 l, List.map_cons, List.sum_cons]
theorem OU (n : ND) : Ff n = 4 + n.text.length + (n.names.map fun l => 1 + l.length).sum + (n.kids.map Ff).sum := by
 cases n with
 | mk a t ns ks => simp only [Ff, P9, ND.kids, ND.text, ND.names]
theorem ZM (a : Nat) (h : a < 2 ^ 62) : Am.binOp .quo (.i .i64 (a : Int)) (.i .i64 64) = some (.i .i64 ((a / 64 : Nat) : Int)) := by
 have h1 : ((a : Int).tdiv 64) = ((a / 64 : Nat) : Int) := by
  rw [Int.tdiv_eq_ediv_of_nonneg (by omega)]; rfl
 show (if (64 : Int) = 0 then none else some (AV.i .i64 (IntKind.i64.wrap ((a : Int).tdiv 64)))) = _
 rw [if_neg (by decide), h1, Cz (by omega)]
theorem QA : ∀ n : ND, n.Ok → Ff n < 2 ^ 60 → ∀ s, Wf s → ∃ r s', (lim prog).call Bl [.agg n.cells] s = some (r, s') ∧ s' = s ∧ ∃ w, w ≤ Ff n ∧ r = .i .i64 (w : Nat) := by
 refine ND.ind fun n ih ho hb s hw => ?_
 refine fn_G (Post := fun r s' => s' = s ∧ ∃ w, w ≤ Ff n ∧ r = .i .i64 (w : Nat)) Gn rfl rfl ?_
 have H1 := (Hp.begin hw).new (.cells 30 n.cells)
 generalize hq : s.enter.new (.cells 30 n.cells) = q at H1
 generalize hm : s.enter.nb = m at H1
 have l1 := H1.ld 0 (off := 1) (v := .s n.text) rfl rfl
 have l2 := H1.ld 0 (off := 2) (v := tx n.names) rfl rfl
 have l3 := H1.ld 0 (off := 3) (v := .ws false 4 (n.kids.map ND.av)) rfl rfl
 have hz0 : wkZ Ab.cin [.agg n.cells] = [.agg n.cells] := by simp [Ab, wkZ, wk, ND.cells]
 have hkl := ho.kids.2
 have hbn := OU n
 have hnl := ho.names.2
 rw [hz0]
 have hq0 := ZM n.text.length (by omega)
 have hw0 : IntKind.i64.wrap (1 + ((n.text.length / 64 : Nat) : Int)) = ((1 + n.text.length / 64 : Nat) : Int) := by
  rw [show 1 + ((n.text.length / 64 : Nat) : Int) = ((1 + n.text.length / 64 : Nat) : Int) by omega]; exact Cz (by omega)
 simp only [Ab, go_sem, AD, AA, AC, AB, KB_n, KB_x, Nat.reduceBEq, Nat.reduceAdd, Nat.reduceLT, Nat.reduceLeDiff, Nat.reduceEqDiff, reduceIte, Int.reduceEq, reduceCtorEq, Af, hq, hm, l1, hq0, hw0, Nat.zero_add]
 have hend : ∀ (w : Nat) e, w ≤ 1 + n.text.length + (n.names.map fun l => 1 + l.length).sum → e.get 1 = .p m 0 → e.get 3 = .i .i64 (w : Nat) → e.get 5 = .i .i64 0 →
     W (lim prog) (subC Ab.body [1, 1, 1, 0, 1, 0]) e q (KB 2 (KS (lim prog) (subC Ab.body [1, 1, 1, 1]) (KG s Ab.res Ab.cout (fun r s' => s' = s ∧ ∃ w, w ≤ Ff n ∧ r = .i .i64 (w : Nat))))) := by
  intro w0 e h0 g1 g3 g5
  simp only [Ab, subC]
  refine CI (fun x e q' => ∃ i w : Nat, i + x = n.kids.length ∧ q' = q ∧ w ≤ 1 + n.text.length + (n.names.map fun l => 1 + l.length).sum + ((n.kids.take i).map Ff).sum ∧ e.get 1 = .p m 0 ∧ e.get 3 = .i .i64 (w : Nat) ∧ e.get 5 = .i .i64 (i : Nat)) ?_ n.kids.length _ _ ⟨0, w0, by omega, rfl, by simp; omega, g1, g3, g5⟩
  rintro x e q' ⟨i, w, hi, rfl, hn, g1, g3, g4⟩
  have hts := F4 Ff n.kids i
  have hfin : KH s [.id] (fun r s' => s' = s ∧ ∃ w, w ≤ Ff n ∧ r = .i .i64 (w : Nat)) (some ([.i .i64 (w : Nat)], q')) := ⟨_, _, rfl, H1.over.leave rfl, w, by omega, rfl⟩
  by_cases h : i < n.kids.length
  · have e1 : ((i : Int) < (n.kids.length : Int)) = True := eq_true (by omega)
    by_cases h' : w < 1000
    · have e2 : ((w : Int) < 1000) = True := eq_true (by omega)
      obtain ⟨k, hk1⟩ : ∃ k, n.kids[i]? = some k := ⟨_, List.getElem?_eq_getElem h⟩
      have hmem : k ∈ n.kids := List.mem_of_getElem? hk1
      have hget := Hw hk1
      have hle := IR (f := Ff) hmem
      have hsu := HO Ff hk1
      have hts2 := F4 Ff n.kids (i + 1)
      have hld : ldA q' true 4 (.ep k.cells 0 .shut) = some (.agg k.cells) := rfl
      obtain ⟨_, _, hc, rfl, v, hv, rfl⟩ := ih k hmem (ho.kids.1 k hmem) (by omega) q' H1.wf
      have hwb : IntKind.i64.wrap ((w : Int) + (v : Int)) = ((w + v : Nat) : Int) := by
       rw [show (w : Int) + (v : Int) = ((w + v : Nat) : Int) by omega]; exact Cz (by omega)
      have hw1 := Ax (show i + 1 < 2 ^ 63 by omega)
      simp only [go_sem, AD, AA, AC, AB, KB_n, KB_x, Nat.reduceBEq, Nat.reduceAdd, Nat.reduceLT, Nat.reduceLeDiff, Nat.reduceEqDiff, reduceIte, Int.reduceEq, reduceCtorEq, g1, g3, g4, l3, List.length_map, e1, e2, AK, hget, hld, AU, hc, hwb, hw1, Nat.zero_add]
      exact ⟨x - 1, by omega, i + 1, w + v, by omega, by omega, rfl, rfl⟩
    · have e2 : ((w : Int) < 1000) = False := eq_false (by omega)
      simp only [go_sem, AD, AA, AC, AB, KB_n, KB_x, Nat.reduceBEq, Nat.reduceAdd, Nat.reduceLT, Nat.reduceLeDiff, Nat.reduceEqDiff, reduceIte, Int.reduceEq, reduceCtorEq, g1, g3, g4, l3, List.length_map, e1, e2, Nat.zero_add]
      exact hfin
  · have e1 : ((i : Int) < (n.kids.length : Int)) = False := eq_false (by omega)
    simp only [go_sem, AD, AA, AC, AB, KB_n, KB_x, Nat.reduceBEq, Nat.reduceAdd, Nat.reduceLT, Nat.reduceLeDiff, Nat.reduceEqDiff, reduceIte, Int.reduceEq, reduceCtorEq, g1, g3, g4, l3, List.length_map, e1, Nat.zero_add]
    exact hfin
 refine CI (fun x e q' => ∃ i w : Nat, i + x = n.names.length ∧ q' = q ∧ w ≤ 1 + n.text.length + ((n.names.take i).map fun l => 1 + l.length).sum ∧ e.get 1 = .p m 0 ∧ e.get 3 = .i .i64 (w : Nat) ∧ e.get 4 = .i .i64 (i : Nat)) ?_ n.names.length _ _ ?_
 · rintro x e q' ⟨i, w, hi, rfl, hn, g1, g3, g4⟩
   have hts := F4 (fun l : List Nat => 1 + l.length) n.names i
   by_cases h : i < n.names.length ∧ w < 1000
   · obtain ⟨h, h'⟩ := h
     have e1 : ((i : Int) < (n.names.length : Int)) = True := eq_true (by omega)
     have e2 : ((w : Int) < 1000) = True := eq_true (by omega)
     obtain ⟨y, hy⟩ : ∃ y, n.names[i]? = some y := ⟨_, List.getElem?_eq_getElem h⟩
     have hy2 : (n.names.map AV.s)[i]? = some (.s y) := by rw [List.getElem?_map, hy]; rfl
     have hsu : ((n.names.take (i + 1)).map fun l : List Nat => 1 + l.length).sum = ((n.names.take i).map fun l : List Nat => 1 + l.length).sum + (1 + y.length) := HO (fun l : List Nat => 1 + l.length) hy
     have hts2 := F4 (fun l : List Nat => 1 + l.length) n.names (i + 1)
     have hq1 := ZM y.length (by omega)
     have hwa : IntKind.i64.wrap ((w : Int) + 1) = ((w + 1 : Nat) : Int) := Ax (by omega)
     have hwb : IntKind.i64.wrap (((w + 1 : Nat) : Int) + ((y.length / 64 : Nat) : Int)) = ((w + 1 + y.length / 64 : Nat) : Int) := by
      rw [show ((w + 1 : Nat) : Int) + ((y.length / 64 : Nat) : Int) = ((w + 1 + y.length / 64 : Nat) : Int) by omega]; exact Cz (by omega)
     have hw1 := Ax (show i + 1 < 2 ^ 63 by omega)
     simp only [go_sem, AD, AA, AC, AB, KB_n, KB_x, Nat.reduceBEq, Nat.reduceAdd, Nat.reduceLT, Nat.reduceLeDiff, Nat.reduceEqDiff, reduceIte, Int.reduceEq, reduceCtorEq, g1, g3, g4, l2, List.length_map, e1, e2, AK, hy2, Bi, DW, hq1, hwa, hwb, hw1, Nat.zero_add]
     exact ⟨x - 1, by omega, i + 1, w + 1 + y.length / 64, by omega, by omega, rfl, rfl⟩
   · have hle : w ≤ 1 + n.text.length + (n.names.map fun l => 1 + l.length).sum := by omega
     by_cases h1 : i < n.names.length
     · have e1 : ((i : Int) < (n.names.length : Int)) = True := eq_true (by omega)
       have e2 : ((w : Int) < 1000) = False := eq_false (by omega)
       simp only [go_sem, AD, AA, AC, AB, KB_n, KB_x, Nat.reduceBEq, Nat.reduceAdd, Nat.reduceLT, Nat.reduceLeDiff, Nat.reduceEqDiff, reduceIte, Int.reduceEq, reduceCtorEq, g1, g3, g4, l2, List.length_map, e1, e2, Nat.zero_add]
       refine hend w _ hle ?_ ?_ ?_ <;> simp only [go_sem, AD, AA, AC, AB, KB_n, KB_x, Nat.reduceBEq, Nat.reduceAdd, Nat.reduceLT, Nat.reduceLeDiff, Nat.reduceEqDiff, reduceIte, Int.reduceEq, reduceCtorEq, g1, g3]
     · have e1 : ((i : Int) < (n.names.length : Int)) = False := eq_false (by omega)
       simp only [go_sem, AD, AA, AC, AB, KB_n, KB_x, Nat.reduceBEq, Nat.reduceAdd, Nat.reduceLT, Nat.reduceLeDiff, Nat.reduceEqDiff, reduceIte, Int.reduceEq, reduceCtorEq, g1, g3, g4, l2, List.length_map, e1, Nat.zero_add]
       refine hend w _ hle ?_ ?_ ?_ <;> simp only [go_sem, AD, AA, AC, AB, KB_n, KB_x, Nat.reduceBEq, Nat.reduceAdd, Nat.reduceLT, Nat.reduceLeDiff, Nat.reduceEqDiff, reduceIte, Int.reduceEq, reduceCtorEq, g1, g3]
 · simp only [go_sem, AD, AA, AC, AB, KB_n, KB_x, Nat.reduceBEq, Nat.reduceAdd, Nat.reduceLT, Nat.reduceLeDiff, Nat.reduceEqDiff, reduceIte, Int.reduceEq, reduceCtorEq]
   exact ⟨0, 1 + n.text.length / 64, by omega, by simp; omega, rfl, rfl⟩
theorem Sw : ∀ n : ND, nodesN n ≤ Ff n := by
 refine ND.ind fun n ih => ?_
 rw [Gt, OU]
 have : ∀ l : List ND, (∀ k ∈ l, nodesN k ≤ Ff k) → (l.map nodesN).sum ≤ (l.map Ff).sum := by
  intro l
  induction l with
  | nil => intro _; exact Nat.le_refl _
  | cons a l il =>
    intro h
    have h1 := h a (by simp)
    have h2 := il fun k hk => h k (by simp [hk])
    simp only [List.map_cons, List.sum_cons]
    omega
 have := this n.kids ih
 omega
end Go.Proofs.YtbfgoopcnkeblaaGreat

namespace Go.Proofs.YtbfgoopcnkeblaaGreat
open Go.Proofs.YtbfgoopcnkeblaaGreat.Am
inductive TD where
 | mk (r : Int) (k : Nat) (t : List Nat) (b : Int) (ns : List (List Nat)) (ks : List TD)
def TD.ref : TD → Int | .mk r _ _ _ _ _ => r
def TD.kind : TD → Nat | .mk _ k _ _ _ _ => k
def TD.text : TD → List Nat | .mk _ _ t _ _ _ => t
def TD.base : TD → Int | .mk _ _ _ b _ _ => b
def TD.names : TD → List (List Nat) | .mk _ _ _ _ ns _ => ns
def TD.kids : TD → List TD | .mk _ _ _ _ _ ks => ks
mutual
def TD.av : TD → AV
 | .mk r k t b ns ks => .agg [.i .i64 r, .i .u8 (k : Nat), .s t, .i .i64 b, tx ns, .ws false 6 (TD.avs ks)]
def TD.avs : List TD → List AV
 | [] => []
 | n :: l => n.av :: TD.avs l
end
theorem TD.avs_map : ∀ l : List TD, TD.avs l = l.map TD.av
 | [] => by simp [TD.avs]
 | n :: l => by simp only [TD.avs, TD.avs_map l, List.map_cons]
def TD.cells (n : TD) : List AV := [.i .i64 n.ref, .i .u8 (n.kind : Nat), .s n.text, .i .i64 n.base, tx n.names, .ws false 6 (n.kids.map TD.av)]
theorem TD.av_eq (n : TD) : n.av = .agg n.cells := by
 cases n with
 | mk r k t b ns ks => simp only [TD.av, TD.avs_map, TD.cells, TD.ref, TD.base, TD.kind, TD.text, TD.names, TD.kids]
theorem TD.lt {n k : TD} (h : k ∈ n.kids) : SizeOf.sizeOf k < SizeOf.sizeOf n := by
 cases n with
 | mk r a t b ns ks =>
   have h : k ∈ ks := h
   have := List.sizeOf_lt_of_mem h
   simp only [TD.mk.sizeOf_spec]
   omega
theorem TD.ind {P : TD → Prop} (h : ∀ n, (∀ k ∈ n.kids, P k) → P n) (n : TD) : P n := by
 have : ∀ (m : Nat) (n : TD), SizeOf.sizeOf n < m → P n := by
  intro m
  induction m with
  | zero => intro n hn; omega
  | succ m ih =>
    intro n hn
    exact h n fun k hk => ih k (by have := TD.lt hk; omega)
 exact this _ n (Nat.lt_succ_self _)
mutual
def TD.nd : TD → ND
 | .mk _ k t _ ns ks => .mk k t ns (TD.nds ks)
def TD.nds : List TD → List ND
 | [] => []
 | k :: l => k.nd :: TD.nds l
end
theorem TD.nds_map : ∀ l : List TD, TD.nds l = l.map TD.nd
 | [] => by simp [TD.nds]
 | n :: l => by simp only [TD.nds, TD.nds_map l, List.map_cons]
theorem TD.nd_eq (n : TD) : n.nd = .mk n.kind n.text n.names (n.kids.map TD.nd) := by
 cases n with
 | mk r k t b ns ks => simp only [TD.nd, TD.nds_map, TD.kind, TD.text, TD.names, TD.kids]
mutual
def ND.td : ND → TD
 | .mk k t ns ks => .mk (-1) k t (-1) ns (ND.tds ks)
def ND.tds : List ND → List TD
 | [] => []
 | k :: l => k.td :: ND.tds l
end
theorem ND.tds_map : ∀ l : List ND, ND.tds l = l.map ND.td
 | [] => by simp [ND.tds]
 | n :: l => by simp only [ND.tds, ND.tds_map l, List.map_cons]
theorem ND.td_eq (n : ND) : n.td = .mk (-1) n.kind n.text (-1) n.names (n.kids.map ND.td) := by
 cases n with
 | mk k t ns ks => simp only [ND.td, ND.tds_map, ND.kind, ND.text, ND.names, ND.kids]
mutual
def EV : TD → Bool
 | .mk r _ _ b _ ks => decide (r = -1) && (decide (b = -1) && P3 ks)
def P3 : List TD → Bool
 | [] => true
 | k :: l => EV k && P3 l
end
theorem NP : ∀ l : List TD, P3 l = l.all EV
 | [] => by simp [P3]
 | n :: l => by simp only [P3, NP l, List.all_cons]
theorem MQ (n : TD) : EV n = (decide (n.ref = -1) && (decide (n.base = -1) && n.kids.all EV)) := by
 cases n with
 | mk r k t b ns ks => simp only [EV, NP, TD.ref, TD.base, TD.kids]; rfl

inductive TD.Ok : TD → Prop
 | mk {r : Int} {k : Nat} {t : List Nat} {b : Int} {ns : List (List Nat)} {ks : List TD} : k < 256 → Txt t → t.length < 2 ^ 62 → (∀ l ∈ ns, Txt l) → ns.length < 2 ^ 34 → ks.length < 2 ^ 34 → (∀ x ∈ ks, TD.Ok x) → TD.Ok (.mk r k t b ns ks)
theorem TD.Ok.kind {n : TD} (h : n.Ok) : n.kind < 256 := by cases h; assumption
theorem TD.Ok.text {n : TD} (h : n.Ok) : Txt n.text ∧ n.text.length < 2 ^ 62 := by cases h; exact ⟨by assumption, by assumption⟩
theorem TD.Ok.names {n : TD} (h : n.Ok) : (∀ l ∈ n.names, Txt l) ∧ n.names.length < 2 ^ 34 := by cases h; exact ⟨by assumption, by assumption⟩
theorem TD.Ok.kids {n : TD} (h : n.Ok) : (∀ k ∈ n.kids, k.Ok) ∧ n.kids.length < 2 ^ 34 := by cases h; exact ⟨by assumption, by assumption⟩
theorem Rz {n : TD} {i : Nat} {k : TD} (h : n.kids[i]? = some k) : (n.kids.map TD.av)[i]? = some (.agg k.cells) := by
 rw [List.getElem?_map, h, Option.map_some, TD.av_eq]
theorem Bf (k : TD) : k.cells.length = 6 := rfl
theorem Xi (k : TD) : ones k.cells = true := rfl
theorem A2 (k : TD) (s : St) : pubL s k.cells = some (k.cells, s) := rfl
theorem Sp (k : TD) (s : St) : frzL s k.cells = some (k.cells, s) := rfl
theorem F6 (f : TD) (s : St) : ldA s true 6 (.ep f.cells 0 .shut) = some (.agg f.cells) := rfl
theorem R0 : ∀ n : TD, n.av.refs = false := by
 refine TD.ind fun n ih => ?_
 have : ∀ l : List TD, (∀ k ∈ l, k.av.refs = false) → AV.refs.go (l.map TD.av) = false := by
  intro l
  induction l with
  | nil => intro _; rfl
  | cons a l il =>
    intro h
    simp only [List.map_cons, AV.refs.go, h a (by simp), il fun k hk => h k (by simp [hk]), Bool.or_self]
 rw [TD.av_eq]
 simp only [TD.cells, AV.refs, AV.refs.go, this _ ih, Ea, Bool.or_self]

attribute [local irreducible] W WO WE WQ WD Tr.get Tr.set
def qx (L : List TD) : AV := .ws false 6 (L.map TD.av)
theorem VW {L : List TD} {i : Nat} {k : TD} (h : L[i]? = some k) : (L.map TD.av)[i]? = some (.agg k.cells) := by
 rw [List.getElem?_map, h, Option.map_some, TD.av_eq]
def MR (P : TD → Bool) (L : List TD) : Int := match L.findIdx? P with
 | some i => (i : Int)
 | none => -1
theorem Sq (P : TD → Bool) (L : List TD) : (0 ≤ MR P L) = (L.any P = true) := by
 unfold MR
 cases h : L.findIdx? P with
 | none =>
   rw [List.findIdx?_eq_none_iff] at h
   simp only [eq_iff_iff, List.any_eq_true]
   constructor
   · intro hh; simp at hh
   · rintro ⟨x, hx, hp⟩; rw [h x hx] at hp; cases hp
 | some i =>
   rw [List.findIdx?_eq_some_iff_getElem] at h
   obtain ⟨h1, h2, _⟩ := h
   simp only [eq_iff_iff, List.any_eq_true]
   exact ⟨fun _ => ⟨L[i], List.getElem_mem h1, h2⟩, fun _ => by omega⟩
theorem VX {P : TD → Bool} {L : List TD} {i : Nat} {z : TD} (h : L[i]? = some z) (hz : P z = true) (hb : ∀ j, j < i → ∀ y, L[j]? = some y → P y = false) : MR P L = (i : Int) := by
 have : L.findIdx? P = some i := by
  rw [List.findIdx?_eq_some_iff_getElem]
  obtain ⟨h1, h2⟩ := List.getElem?_eq_some_iff.1 h
  refine ⟨h1, by rw [h2]; exact hz, fun j hj => ?_⟩
  rw [hb j hj L[j] (List.getElem?_eq_getElem (by omega))]
  simp
 unfold MR
 rw [this]
theorem VY {P : TD → Bool} {L : List TD} (hb : ∀ j, j < L.length → ∀ y, L[j]? = some y → P y = false) : MR P L = -1 := by
 have : L.findIdx? P = none := by
  rw [List.findIdx?_eq_none_iff]
  intro x hx
  obtain ⟨j, hj, rfl⟩ := List.mem_iff_getElem.1 hx
  exact hb j hj _ (List.getElem?_eq_getElem hj)
 unfold MR
 rw [this]
theorem Mp (L : List TD) (hL : L.length < 2 ^ 62) (g : Nat) (caps : List AV) (P : TD → Bool) (s : St) (hw : Wf s) (hP : ∀ z ∈ L, Ej (lim prog) (.fn g caps) [.agg z.cells] s.enter = some (.b (P z), s.enter)) :
    (lim prog).call Be [qx L, .fn g caps] s = some (.i .i64 (MR P L), s) := by
 refine fn_W ED rfl rfl ?_
 have hz0 : wkZ Ah.cin [qx L, .fn g caps] = [qx L, .fn g caps] := by simp [Ah, wkZ, wk, qx, qx]
 rw [hz0]
 simp only [Ah, go_sem, AD, AA, AC, AB, KB_n, KB_x, Nat.reduceBEq, Nat.reduceAdd, Nat.reduceLT, Nat.reduceLeDiff, Nat.reduceEqDiff, reduceIte, Int.reduceEq, reduceCtorEq, qx, List.length_map]
 refine CI (fun x e q => ∃ i : Nat, i + x = L.length ∧ q = s.enter ∧ (∀ j, j < i → ∀ y, L[j]? = some y → P y = false) ∧ e.get 0 = qx L ∧ e.get 1 = .fn g caps ∧ e.get 7 = .i .i64 (L.length : Nat) ∧ e.get 8 = .i .i64 (i : Nat)) ?_ L.length _ _ ?_
 · rintro x e q ⟨i, hi, rfl, hb, g0, g1, g7, g8⟩
   by_cases h : i < L.length
   · have h1 : ((i : Int) < (L.length : Int)) = True := eq_true (by omega)
     obtain ⟨z, hz⟩ : ∃ z, L[i]? = some z := ⟨_, List.getElem?_eq_getElem h⟩
     have hz2 := VW hz
     have hc := hP z (List.mem_of_getElem? hz)
     have hw1 := Ax (show i + 1 < 2 ^ 63 by omega)
     cases hp : P z with
     | true =>
       rw [hp] at hc
       rw [VX hz hp hb]
       simp only [go_sem, AD, AA, AC, AB, KB_n, KB_x, Nat.reduceBEq, Nat.reduceAdd, Nat.reduceLT, Nat.reduceLeDiff, Nat.reduceEqDiff, reduceIte, Int.reduceEq, reduceCtorEq, g0, g1, g7, g8, qx, h1, AK, hz2, B4, F6, A2, hc]
       exact AI (Over.enter s) rfl rfl
     | false =>
       rw [hp] at hc
       simp only [go_sem, AD, AA, AC, AB, KB_n, KB_x, Nat.reduceBEq, Nat.reduceAdd, Nat.reduceLT, Nat.reduceLeDiff, Nat.reduceEqDiff, reduceIte, Int.reduceEq, reduceCtorEq, g0, g1, g7, g8, qx, h1, AK, hz2, B4, F6, A2, hc, hw1]
       refine ⟨x - 1, by omega, i + 1, by omega, fun j hj y hy => ?_, rfl⟩
       rcases Nat.lt_or_ge j i with hlt | hge
       · exact hb j hlt y hy
       · obtain rfl : j = i := by omega
         rw [hz] at hy; cases hy; exact hp
   · have h1 : ((i : Int) < (L.length : Int)) = False := eq_false (by omega)
     rw [VY fun j hj => hb j (by omega)]
     simp only [go_sem, AD, AA, AC, AB, KB_n, KB_x, Nat.reduceBEq, Nat.reduceAdd, Nat.reduceLT, Nat.reduceLeDiff, Nat.reduceEqDiff, reduceIte, Int.reduceEq, reduceCtorEq, g0, g1, g7, g8, h1]
     exact AI (Over.enter s) rfl rfl
 · simp only [go_sem, AD, AA, AC, AB, KB_n, KB_x, Nat.reduceBEq, Nat.reduceAdd, Nat.reduceLT, Nat.reduceLeDiff, Nat.reduceEqDiff, reduceIte, Int.reduceEq, reduceCtorEq]
   exact ⟨0, by omega, fun j hj => by omega, rfl, rfl⟩
theorem KX (L : List TD) (hL : L.length < 2 ^ 62) (g : Nat) (caps : List AV) (P : TD → Bool) (s : St) (hw : Wf s) (hP : ∀ z ∈ L, Ej (lim prog) (.fn g caps) [.agg z.cells] s.enter = some (.b (P z), s.enter)) :
    (lim prog).call BP [qx L, .fn g caps] s = some (.b (L.any P), s) := by
 refine fn_W Ds rfl rfl ?_
 have hz0 : wkZ Ac.cin [qx L, .fn g caps] = [qx L, .fn g caps] := by simp [Ac, wkZ, wk, qx, qx]
 have h1 := Mp L hL g caps P s.enter hw.enter hP
 rw [hz0]
 unfold qx at h1
 simp only [Ac, go_sem, AD, AA, AC, AB, KB_n, KB_x, Nat.reduceBEq, Nat.reduceAdd, Nat.reduceLT, Nat.reduceLeDiff, Nat.reduceEqDiff, reduceIte, Int.reduceEq, reduceCtorEq, h1, qx, Sq]
 exact AI (Over.enter s) rfl (by cases h : L.any P <;> rfl)
theorem XB : ∀ n : TD, n.Ok → ∀ s, Wf s → (lim prog).call FA [.agg n.cells] s = some (.b (EV n), s) := by
 refine TD.ind fun n ih ho s hw => ?_
 refine fn_W Ml rfl rfl ?_
 have H1 := (Hp.begin hw).new (.cells 34 n.cells)
 generalize hq : s.enter.new (.cells 34 n.cells) = q at H1
 generalize hm : s.enter.nb = m at H1
 have l0 := H1.ld 0 (off := 0) (v := .i .i64 n.ref) rfl rfl
 have l3 := H1.ld 0 (off := 3) (v := .i .i64 n.base) rfl rfl
 have l5 := H1.ld 0 (off := 5) (v := .ws false 6 (n.kids.map TD.av)) rfl rfl
 have hz0 : wkZ Ce.cin [.agg n.cells] = [.agg n.cells] := by simp [Ce, wkZ, wk, TD.cells]
 have hkl := ho.kids.2
 have hbr : ∀ b, KR s [.id] (.b b) (some ([.b b], q)) := fun b => AI H1.over rfl rfl
 have hcl : ∀ k ∈ n.kids, Ej (lim prog) (.fn DU []) [.agg k.cells] q.enter = some (.b (!EV k), q.enter) := by
  intro k hk
  show (lim prog).call DU ([.agg k.cells] ++ []) q.enter = _
  refine fn_W K0 rfl rfl ?_
  have K1 := (Hp.begin H1.wf.enter).new (.cells 34 k.cells)
  generalize hu : q.enter.enter.new (.cells 34 k.cells) = u at K1
  generalize hv : q.enter.enter.nb = v at K1
  have lw := K1.ldw 0 (m := 6) rfl rfl
  have hc := ih k hk (ho.kids.1 k hk) u K1.wf
  have hz1 : wkZ Cs.cin ([.agg k.cells] ++ []) = [.agg k.cells] := by simp [Cs, wkZ, wk, TD.cells]
  rw [hz1]
  simp only [Cs, go_sem, AD, AA, AC, AB, KB_n, KB_x, Nat.reduceBEq, Nat.reduceAdd, Nat.reduceLT, Nat.reduceLeDiff, Nat.reduceEqDiff, reduceIte, Int.reduceEq, reduceCtorEq, Bf, hu, hv, lw, A2, hc]
  exact AI K1.over rfl rfl
 have hC := KX n.kids (by omega) DU [] (fun k => !EV k) q H1.wf hcl
 have hall : (n.kids.any fun k => !EV k) = !(n.kids.all EV) := by
  rw [List.not_all_eq_any_not]
 rw [hall] at hC; unfold qx at hC
 rw [hz0, MQ]
 by_cases c1 : n.ref = -1
 · by_cases c2 : n.base = -1
   · simp only [Ce, go_sem, AD, AA, AC, AB, KB_n, KB_x, Nat.reduceBEq, Nat.reduceAdd, Nat.reduceLT, Nat.reduceLeDiff, Nat.reduceEqDiff, reduceIte, Int.reduceEq, reduceCtorEq, Bf, hq, hm, l0, l3, l5, Nat.zero_add, c1, c2, hC, Bool.not_not]
     exact hbr _
   · simp only [Ce, go_sem, AD, AA, AC, AB, KB_n, KB_x, Nat.reduceBEq, Nat.reduceAdd, Nat.reduceLT, Nat.reduceLeDiff, Nat.reduceEqDiff, reduceIte, Int.reduceEq, reduceCtorEq, Bf, hq, hm, l0, l3, l5, Nat.zero_add, c1, decide_eq_false c2]
     exact hbr _
 · simp only [Ce, go_sem, AD, AA, AC, AB, KB_n, KB_x, Nat.reduceBEq, Nat.reduceAdd, Nat.reduceLT, Nat.reduceLeDiff, Nat.reduceEqDiff, reduceIte, Int.reduceEq, reduceCtorEq, Bf, hq, hm, l0, l3, l5, Nat.zero_add, decide_eq_false c1]
   exact hbr _

theorem Qz {f : Nat} {fn : Fun} {args args' : List AV} {s : St} (hp : prog f = some fn) (hpr : fn.prim = none) (hl : args.length = args'.length) (hw : wkZ fn.cin args = wkZ fn.cin args') : (lim prog).call f args s = (lim prog).call f args' s := by
 rw [E8, E8]
 unfold GY
 simp only [hp, hpr, hl, hw]
theorem HR {n : TD} (h : EV n = true) : n.ref = -1 ∧ n.base = -1 ∧ ∀ k ∈ n.kids, EV k = true := by
 rw [MQ] at h
 simp only [Bool.and_eq_true, decide_eq_true_eq, List.all_eq_true] at h
 exact ⟨h.1, h.2.1, h.2.2⟩
theorem P4 : (((-1 : Int)) ≠ -1) = False := by simp
theorem P5 : ((0 : Int) ≤ -1) = False := by simp
theorem Hx (s : St) (L : List FT) : pub s (fx L) = some (fx L, s) := rfl
theorem Eh (k : TD) : k.cells.all noTok = true := rfl
theorem MS (n : TD) : n.nd.kind = n.kind := by rw [TD.nd_eq]; rfl
theorem IU (n : TD) : n.nd.names = n.names := by rw [TD.nd_eq]; rfl
theorem VZ (n : TD) : n.nd.text = n.text := by rw [TD.nd_eq]; rfl
theorem OQ (n : TD) : n.nd.kids = n.kids.map TD.nd := by rw [TD.nd_eq]; rfl
theorem NQ (L : List FT) : ∀ n : TD, n.Ok → EV n = true → ∀ s, Wf s → (lim prog).call Gl [fx L, .agg n.cells, .b false] s = some (.b (C8 n.nd), s) := by
 refine TD.ind fun n ih ho hwh s hw => ?_
 obtain ⟨hr, hb, hkw⟩ := HR hwh
 refine fn_W NB rfl rfl ?_
 have H1 := (Hp.begin hw).new (.cells 34 n.cells)
 generalize hq : s.enter.new (.cells 34 n.cells) = q at H1
 generalize hm : s.enter.nb = m at H1
 have l0 : ldA q false 1 (.p m 0) = some (.i .i64 (-1)) := by rw [← hr]; exact H1.ld 0 (off := 0) (v := .i .i64 n.ref) rfl rfl
 have l1 := H1.ld 0 (off := 1) (v := .i .u8 (n.kind : Nat)) rfl rfl
 have l2 := H1.ld 0 (off := 2) (v := .s n.text) rfl rfl
 have H2 := H1.new (.cells 30 [.i .u8 0, .s [], .nsl, .nsl])
 generalize hq2 : q.new (.cells 30 [.i .u8 0, .s [], .nsl, .nsl]) = q2 at H2
 generalize hm2 : q.nb = m2 at H2
 obtain ⟨q3, d3, H3, _⟩ := H2.stw 0 (v := .agg [.i .u8 (n.kind : Nat), .s n.text, .nsl, .nsl]) (m := 4) rfl rfl ⟨rfl, rfl⟩
 have k1 := H3.ld 1 (off := 1) (v := .i .u8 (n.kind : Nat)) rfl rfl
 have k2 := H3.ld 1 (off := 2) (v := .s n.text) rfl rfl
 have k3 : ldA q3 false 1 (.p m 3) = some (.i .i64 (-1)) := by rw [← hb]; exact H3.ld 1 (off := 3) (v := .i .i64 n.base) rfl rfl
 have k4 := H3.ld 1 (off := 4) (v := tx n.names) rfl rfl
 have k5 := H3.ld 1 (off := 5) (v := .ws false 6 (n.kids.map TD.av)) rfl rfl
 have kb := H3.ldw 0 (m := 4) rfl rfl
 have hz0 : wkZ Bn.cin [fx L, .agg n.cells, .b false] = [fx L, .agg n.cells, .b false] := by simp [Bn, wkZ, wk, TD.cells, fx]
 have hbr : ∀ b, KR s [.id] (.b b) (some ([.b b], q3)) := fun b => AI H3.over rfl rfl
 have hnl := ho.names.2
 have hkl := ho.kids.2
 rw [hz0]
 by_cases c0 : n.kind = 0
 · have e0 : ((n.kind : Int) = 0) = True := eq_true (by omega)
   have : C8 n.nd = false := by
    rw [IS, MS, c0, if_neg (by omega), if_neg (by omega)]
   rw [this]
   simp only [Bn, go_sem, AD, AA, AC, AB, KB_n, KB_x, Nat.reduceBEq, Nat.reduceAdd, Nat.reduceLT, Nat.reduceLeDiff, Nat.reduceEqDiff, reduceIte, Int.reduceEq, reduceCtorEq, Bf, hq, hm, l0, P4, l1, l2, hq2, hm2, d3, k1, e0, Nat.zero_add]
   refine JS rfl ?_
   simp only [go_sem, AD, AA, AC, AB, KB_n, KB_x, Nat.reduceBEq, Nat.reduceAdd, Nat.reduceLT, Nat.reduceLeDiff, Nat.reduceEqDiff, reduceIte, Int.reduceEq, reduceCtorEq]
   refine Uh rfl (b := false) ?_ rfl ⟨_, rfl⟩ (JT ?_)
   · simp only [go_sem, AD, AA, AC, AB, KB_n, KB_x, Nat.reduceBEq, Nat.reduceAdd, Nat.reduceLT, Nat.reduceLeDiff, Nat.reduceEqDiff, reduceIte, Int.reduceEq, reduceCtorEq]
   simp only [go_sem, AD, AA, AC, AB, KB_n, KB_x, Nat.reduceBEq, Nat.reduceAdd, Nat.reduceLT, Nat.reduceLeDiff, Nat.reduceEqDiff, reduceIte, Int.reduceEq, reduceCtorEq]
   exact hbr _
 · have e0 : ((n.kind : Int) = 0) = False := eq_false (by omega)
   by_cases c2 : n.kind = 2
   · have e2 : ((n.kind : Int) ≠ 2) = False := by simp only [ne_eq, eq_iff_iff, iff_false]; omega
     rw [IS, MS, IU, VZ, OQ, if_neg (by omega), if_pos c2, List.length_map]
     by_cases d1 : n.text = []
     · have f1 : (n.text ≠ []) = False := by simp [d1]
       by_cases d2 : n.names.length = n.kids.length
       · have f2 : ((n.names.length : Int) ≠ (n.kids.length : Int)) = False := by simp only [ne_eq, eq_iff_iff, iff_false]; omega
         rw [decide_eq_true d1, decide_eq_true d2]
         simp only [Bn, go_sem, AD, AA, AC, AB, KB_n, KB_x, Nat.reduceBEq, Nat.reduceAdd, Nat.reduceLT, Nat.reduceLeDiff, Nat.reduceEqDiff, reduceIte, Int.reduceEq, reduceCtorEq, Bf, hq, hm, l0, P4, l1, l2, hq2, hm2, d3, k1, k2, k3, k4, k5, e0, e2, f1, f2, List.length_map, Nat.zero_add]
         refine CI (fun x e q => ∃ i : Nat, i + x = n.names.length ∧ q = q3 ∧ Eg none (n.names.take i) ((n.kids.map TD.nd).take i) = true ∧ e.get 0 = fx L ∧ e.get 4 = .p m 0 ∧ e.get 92 = tx n.names ∧ e.get 93 = .i .i64 (n.names.length : Nat) ∧ e.get 94 = .i .i64 (i : Nat)) ?_ n.names.length _ _ ?_
         · rintro x e q' ⟨i, hi, rfl, hwl, g0, g1, g55, g56, g57⟩
           by_cases h : i < n.names.length
           · have h1 : ((i : Int) < (n.names.length : Int)) = True := eq_true (by omega)
             obtain ⟨y, hy⟩ : ∃ y, n.names[i]? = some y := ⟨_, List.getElem?_eq_getElem h⟩
             obtain ⟨k, hk⟩ : ∃ k, n.kids[i]? = some k := ⟨_, List.getElem?_eq_getElem (by omega)⟩
             have hy2 : (n.names.map AV.s)[i]? = some (.s y) := by rw [List.getElem?_map, hy]; rfl
             have hk2 := Rz hk
             have hkn : (n.kids.map TD.nd)[i]? = some k.nd := by rw [List.getElem?_map, hk]; rfl
             have hkm : k ∈ n.kids := List.mem_of_getElem? hk
             have hym : y ∈ n.names := List.mem_of_getElem? hy
             have hnm := Qx y (ho.names.1 y hym) q' H3.wf
             have hkc := ih k hkm (ho.kids.1 k hkm) (hkw k hkm) q' H3.wf
             have hw1 := Ax (show i + 1 < 2 ^ 63 by omega)
             have htk : n.names.take (i + 1) = n.names.take i ++ [y] := by rw [List.take_add_one, hy]; rfl
             have htk2 : (n.kids.map TD.nd).take (i + 1) = (n.kids.map TD.nd).take i ++ [k.nd] := by rw [List.take_add_one, hkn]; rfl
             have hsn := KP none (n.names.take i) ((n.kids.map TD.nd).take i) y k.nd (by rw [List.length_take, List.length_take, List.length_map]; omega)
             rw [← htk, ← htk2, hwl, Bool.true_and] at hsn
             have hno : Eg none (n.names.take (i + 1)) ((n.kids.map TD.nd).take (i + 1)) = false → Eg none n.names (n.kids.map TD.nd) = false := fun hf => by
              rw [Bool.eq_false_iff]
              intro ht
              rw [KT k.nd none n.names (n.kids.map TD.nd) (i + 1) ht] at hf
              cases hf
             cases hn1 : HQ y with
             | false =>
               rw [hn1] at hnm hsn
               rw [hno hsn]
               simp only [go_sem, AD, AA, AC, AB, KB_n, KB_x, Nat.reduceBEq, Nat.reduceAdd, Nat.reduceLT, Nat.reduceLeDiff, Nat.reduceEqDiff, reduceIte, Int.reduceEq, reduceCtorEq, g0, g1, g55, g56, g57, h1, AK, hy2, Bi, DW, hnm]
               exact hbr _
             | true =>
             rw [hn1] at hnm hsn
             cases i with
             | zero =>
               have h2 : ((0 : Int) < ((0 : Nat) : Int)) = False := by simp
               have hsn : Eg none (n.names.take (0 + 1)) ((n.kids.map TD.nd).take (0 + 1)) = C8 k.nd := by rw [hsn]; simp
               cases hwk : C8 k.nd with
               | false =>
                 rw [hwk] at hkc hsn
                 rw [hno hsn]
                 simp only [go_sem, AD, AA, AC, AB, KB_n, KB_x, Nat.reduceBEq, Nat.reduceAdd, Nat.reduceLT, Nat.reduceLeDiff, Nat.reduceEqDiff, reduceIte, Int.reduceEq, reduceCtorEq, g0, g1, g55, g56, g57, h1, AK, hy2, Bi, DW, hnm, h2, k3, k5, hk2, F6, A2, P5, Hx, Eh, hkc, Nat.zero_add]
                 exact hbr _
               | true =>
                 rw [hwk] at hkc hsn
                 simp only [go_sem, AD, AA, AC, AB, KB_n, KB_x, Nat.reduceBEq, Nat.reduceAdd, Nat.reduceLT, Nat.reduceLeDiff, Nat.reduceEqDiff, reduceIte, Int.reduceEq, reduceCtorEq, g0, g1, g55, g56, g57, h1, AK, hy2, Bi, DW, hnm, h2, k3, k5, hk2, F6, A2, P5, Hx, Eh, hkc, hw1]
                 exact ⟨x - 1, by omega, 0 + 1, by omega, hsn, rfl⟩
             | succ i =>
               have h2 : ((0 : Int) < ((i + 1 : Nat) : Int)) = True := eq_true (by omega)
               obtain ⟨z, hz⟩ : ∃ z, n.names[i]? = some z := ⟨_, List.getElem?_eq_getElem (by omega)⟩
               have hz2 : (n.names.map AV.s)[i]? = some (.s z) := by rw [List.getElem?_map, hz]; rfl
               have hsb : IntKind.i64.wrap (((i + 1 : Nat) : Int) - 1) = (i : Int) := by
                rw [show ((i + 1 : Nat) : Int) - 1 = (i : Int) by omega]; exact Cz (by omega)
               rw [Km hz] at hsn
               have hsn : Eg none (n.names.take (i + 1 + 1)) ((n.kids.map TD.nd).take (i + 1 + 1)) = (ltN z y && C8 k.nd) := by rw [hsn]; simp
               have hle : (ltN y z || beqN y z) = !ltN z y := Ja y z
               cases hzy : ltN z y with
               | false =>
                 rw [hzy] at hle hsn
                 rw [hno hsn]
                 simp only [go_sem, AD, AA, AC, AB, KB_n, KB_x, Nat.reduceBEq, Nat.reduceAdd, Nat.reduceLT, Nat.reduceLeDiff, Nat.reduceEqDiff, reduceIte, Int.reduceEq, reduceCtorEq, g0, g1, g55, g56, g57, h1, AK, hy2, Bi, DW, hnm, h2, k4, hsb, hz2, Kl, hle, Nat.zero_add]
                 exact hbr _
               | true =>
                 rw [hzy] at hle hsn
                 cases hwk : C8 k.nd with
                 | false =>
                   rw [hwk] at hkc hsn
                   rw [hno hsn]
                   simp only [go_sem, AD, AA, AC, AB, KB_n, KB_x, Nat.reduceBEq, Nat.reduceAdd, Nat.reduceLT, Nat.reduceLeDiff, Nat.reduceEqDiff, reduceIte, Int.reduceEq, reduceCtorEq, g0, g1, g55, g56, g57, h1, AK, hy2, Bi, DW, hnm, h2, k3, k4, k5, hsb, hz2, Kl, hle, hk2, F6, A2, P5, Hx, Eh, hkc, Nat.zero_add]
                   exact hbr _
                 | true =>
                   rw [hwk] at hkc hsn
                   simp only [go_sem, AD, AA, AC, AB, KB_n, KB_x, Nat.reduceBEq, Nat.reduceAdd, Nat.reduceLT, Nat.reduceLeDiff, Nat.reduceEqDiff, reduceIte, Int.reduceEq, reduceCtorEq, g0, g1, g55, g56, g57, h1, AK, hy2, Bi, DW, hnm, h2, k3, k4, k5, hsb, hz2, Kl, hle, hk2, F6, A2, P5, Hx, Eh, hkc, hw1, Nat.zero_add]
                   exact ⟨x - 1, by omega, i + 1 + 1, by omega, hsn, rfl⟩
           · have h1 : ((i : Int) < (n.names.length : Int)) = False := eq_false (by omega)
             rw [List.take_of_length_le (by omega), List.take_of_length_le (by rw [List.length_map]; omega)] at hwl
             rw [hwl]
             simp only [go_sem, AD, AA, AC, AB, KB_n, KB_x, Nat.reduceBEq, Nat.reduceAdd, Nat.reduceLT, Nat.reduceLeDiff, Nat.reduceEqDiff, reduceIte, Int.reduceEq, reduceCtorEq, g0, g1, g55, g56, g57, h1]
             exact hbr _
         · simp only [go_sem, AD, AA, AC, AB, KB_n, KB_x, Nat.reduceBEq, Nat.reduceAdd, Nat.reduceLT, Nat.reduceLeDiff, Nat.reduceEqDiff, reduceIte, Int.reduceEq, reduceCtorEq]
           exact ⟨0, by omega, by simp [Eg], rfl⟩
       · have f2 : ((n.names.length : Int) ≠ (n.kids.length : Int)) = True := by simp only [ne_eq, eq_iff_iff, iff_true]; omega
         rw [decide_eq_true d1, decide_eq_false d2]
         simp only [Bn, go_sem, AD, AA, AC, AB, KB_n, KB_x, Nat.reduceBEq, Nat.reduceAdd, Nat.reduceLT, Nat.reduceLeDiff, Nat.reduceEqDiff, reduceIte, Int.reduceEq, reduceCtorEq, Bf, hq, hm, l0, P4, l1, l2, hq2, hm2, d3, k1, k2, k3, k4, k5, e0, e2, f1, f2, List.length_map, Nat.zero_add]
         exact hbr _
     · have f1 : (n.text ≠ []) = True := by simp [d1]
       rw [decide_eq_false d1]
       simp only [Bn, go_sem, AD, AA, AC, AB, KB_n, KB_x, Nat.reduceBEq, Nat.reduceAdd, Nat.reduceLT, Nat.reduceLeDiff, Nat.reduceEqDiff, reduceIte, Int.reduceEq, reduceCtorEq, Bf, hq, hm, l0, P4, l1, l2, hq2, hm2, d3, k1, k2, k3, k4, k5, e0, e2, f1, Nat.zero_add]
       exact hbr _
   · have e2 : ((n.kind : Int) ≠ 2) = True := by simp only [ne_eq, eq_iff_iff, iff_true]; omega
     have hbo : (ND.mk n.kind n.text [] []).Ok := .mk ho.kind ho.text.1 ho.text.2 (by simp) (by simp) (by simp) (by simp)
     have hbw : (lim prog).call DH [.agg [.i .u8 (n.kind : Nat), .s n.text, .nsl, .nsl]] q3 = some (.b (C8 (.mk n.kind n.text [] [])), q3) := by
      refine (Qz (args := [.agg [.i .u8 (n.kind : Nat), .s n.text, .nsl, .nsl]]) (args' := [.agg (ND.mk n.kind n.text [] []).cells]) Ki rfl rfl ?_).trans (ON _ hbo q3 H3.wf)
      simp [A1, wkZ, wk, wkM, ND.cells, ND.kind, ND.text, ND.names, ND.kids, tx]
     have hsum : IntKind.i64.wrap ((n.names.length : Int) + (n.kids.length : Int)) = ((n.names.length + n.kids.length : Nat) : Int) := by
      rw [show (n.names.length : Int) + (n.kids.length : Int) = ((n.names.length + n.kids.length : Nat) : Int) by omega]
      exact Cz (by omega)
     by_cases d : n.names.length + n.kids.length = 0
     · have f1 : (((n.names.length + n.kids.length : Nat) : Int) = 0) = True := eq_true (by omega)
       have hn0 : n.names = [] := List.length_eq_zero_iff.1 (by omega)
       have hk0 : n.kids = [] := List.length_eq_zero_iff.1 (by omega)
       have : n.nd = .mk n.kind n.text [] [] := by rw [TD.nd_eq, hn0, hk0]; rfl
       rw [this]
       cases hwb : C8 (.mk n.kind n.text [] []) with
       | false =>
         rw [hwb] at hbw
         simp only [Bn, go_sem, AD, AA, AC, AB, KB_n, KB_x, Nat.reduceBEq, Nat.reduceAdd, Nat.reduceLT, Nat.reduceLeDiff, Nat.reduceEqDiff, reduceIte, Int.reduceEq, reduceCtorEq, Bf, hq, hm, l0, P4, l1, l2, hq2, hm2, d3, k1, kb, e0, e2, hbw, Nat.zero_add]
         exact hbr _
       | true =>
         rw [hwb] at hbw
         simp only [Bn, go_sem, AD, AA, AC, AB, KB_n, KB_x, Nat.reduceBEq, Nat.reduceAdd, Nat.reduceLT, Nat.reduceLeDiff, Nat.reduceEqDiff, reduceIte, Int.reduceEq, reduceCtorEq, Bf, hq, hm, l0, P4, l1, l2, hq2, hm2, d3, k1, k3, k4, k5, kb, e0, e2, hbw, List.length_map, hsum, f1, Nat.zero_add]
         exact hbr _
     · have f1 : (((n.names.length + n.kids.length : Nat) : Int) = 0) = False := eq_false (by omega)
       have : C8 n.nd = false := by
        rw [IS, MS, IU, VZ, OQ, List.length_map]
        by_cases c1 : n.kind = 1 ∨ n.kind = 3
        · rw [if_pos c1]
          by_cases g1 : n.names = []
          · have g2 : n.kids.length ≠ 0 := by intro h; exact d (by rw [g1, h]; rfl)
            simp [g2]
          · simp [g1]
        · rw [if_neg c1, if_neg c2]
       rw [this]
       cases hwb : C8 (.mk n.kind n.text [] []) with
       | false =>
         rw [hwb] at hbw
         simp only [Bn, go_sem, AD, AA, AC, AB, KB_n, KB_x, Nat.reduceBEq, Nat.reduceAdd, Nat.reduceLT, Nat.reduceLeDiff, Nat.reduceEqDiff, reduceIte, Int.reduceEq, reduceCtorEq, Bf, hq, hm, l0, P4, l1, l2, hq2, hm2, d3, k1, kb, e0, e2, hbw, Nat.zero_add]
         exact hbr _
       | true =>
         rw [hwb] at hbw
         simp only [Bn, go_sem, AD, AA, AC, AB, KB_n, KB_x, Nat.reduceBEq, Nat.reduceAdd, Nat.reduceLT, Nat.reduceLeDiff, Nat.reduceEqDiff, reduceIte, Int.reduceEq, reduceCtorEq, Bf, hq, hm, l0, P4, l1, l2, hq2, hm2, d3, k1, k3, k4, k5, kb, e0, e2, hbw, List.length_map, hsum, f1, Nat.zero_add]
         exact hbr _
end Go.Proofs.YtbfgoopcnkeblaaGreat

namespace Go.Proofs.YtbfgoopcnkeblaaGreat
open Go.Proofs.YtbfgoopcnkeblaaGreat.Am
theorem Jb : ∀ {a b c : List Nat}, ltN a b = true → ltN b c = true → ltN a c = true
 | [], [], _, h, _ => by simp [ltN] at h
 | _ :: _, [], _, h, _ => by simp [ltN] at h
 | _, _ :: _, [], _, h => by simp [ltN] at h
 | [], _ :: _, _ :: _, _, _ => rfl
 | a :: x, b :: y, c :: z, h1, h2 => by
   simp only [ltN, Bool.or_eq_true, Bool.and_eq_true, Nat.blt_eq, Nat.beq_eq] at h1 h2 ⊢
   rcases h1 with h1 | ⟨h1, h3⟩
   · rcases h2 with h2 | ⟨h2, _⟩
     · left; omega
     · left; omega
   · rcases h2 with h2 | ⟨h2, h4⟩
     · left; omega
     · right; exact ⟨by omega, Jb h3 h4⟩

attribute [local irreducible] W WO WE WQ WD Tr.get Tr.set
theorem ZB (a : List Nat) (s : St) : (lim prog).call De [.s a] s = some (.b false, s) := by
 refine fn_W JX rfl rfl ?_
 have e1 : (a ≠ a) = False := by simp
 simp only [Cy, go_sem, AD, AA, AC, AB, KB_n, KB_x, Nat.reduceBEq, Nat.reduceAdd, Nat.reduceLT, Nat.reduceLeDiff, Nat.reduceEqDiff, reduceIte, Int.reduceEq, reduceCtorEq, e1]
 exact AI (Over.enter s) rfl rfl
theorem ZC (a : List Nat) (s : St) : (lim prog).call Cu [.s a] s = some (.b false, s) := by
 refine fn_W Hs rfl rfl ?_
 have e1 : (a ≠ a) = False := by simp
 simp only [CJ, go_sem, AD, AA, AC, AB, KB_n, KB_x, Nat.reduceBEq, Nat.reduceAdd, Nat.reduceLT, Nat.reduceLeDiff, Nat.reduceEqDiff, reduceIte, Int.reduceEq, reduceCtorEq, e1]
 exact AI (Over.enter s) rfl rfl
theorem Rv (a b : List Nat) (s : St) : (lim prog).call E3 [.s a, .s b] s = some (.b (ltN a b), s) := by
 refine fn_W J9 rfl rfl ?_
 simp only [DE, go_sem, AD, AA, AC, AB, KB_n, KB_x, Nat.reduceBEq, Nat.reduceAdd, Nat.reduceLT, Nat.reduceLeDiff, Nat.reduceEqDiff, reduceIte, Int.reduceEq, reduceCtorEq, ZB]
 exact AI (Over.enter s) rfl rfl
def Asc (L : List (List Nat)) : Prop := ∀ {i j : Nat} {a b : List Nat}, i < j → L[i]? = some a → L[j]? = some b → ltN a b = true
structure Pos (L : List (List Nat)) (x : List Nat) (p : Nat) : Prop where
 le : p ≤ L.length
 lo : ∀ {k : Nat} {y : List Nat}, k < p → L[k]? = some y → ltN y x = true
 hi : ∀ {k : Nat} {y : List Nat}, p ≤ k → L[k]? = some y → ltN y x = false
theorem shr1 (a : Nat) : Am.binOp .shr (.i .u64 (a : Int)) (.i .u64 1) = some (.i .u64 ((a / 2 : Nat) : Int)) := by
 have : ((a : Int).fdiv 2) = ((a / 2 : Nat) : Int) := by
  rw [Int.fdiv_eq_ediv_of_nonneg _ (by omega)]; omega
 simp [Am.binOp, IntKind.bits]
 exact this
theorem wrapU {a : Nat} (h : a < 2 ^ 64) : IntKind.u64.wrap (a : Int) = (a : Int) := by
 have : ((a : Int) % 2 ^ 64) = (a : Int) := by omega
 simp only [IntKind.wrap, IntKind.signed, IntKind.bits, this]
 rfl
theorem Xe (f : List Nat → Bool) : ∀ L : List (List Nat), ∃ p, p ≤ L.length ∧ (∀ {k : Nat} {y : List Nat}, k < p → L[k]? = some y → f y = true) ∧ ∀ {y : List Nat}, L[p]? = some y → f y = false
 | [] => ⟨0, by simp, fun h => by omega, fun h => by simp at h⟩
 | a :: L => by
   cases ha : f a with
   | false => exact ⟨0, by simp, fun h => by omega, fun h => by simp only [List.getElem?_cons_zero, Option.some.injEq] at h; rw [← h]; exact ha⟩
   | true =>
     obtain ⟨p, h1, h2, h3⟩ := Xe f L
     refine ⟨p + 1, by simp; omega, fun {k y} hk hy => ?_, fun h => h3 (by simpa using h)⟩
     cases k with
     | zero => simp only [List.getElem?_cons_zero, Option.some.injEq] at hy; rw [← hy]; exact ha
     | succ k => exact h2 (k := k) (by omega) (by simpa using hy)
theorem pos_ex {L : List (List Nat)} (hasc : Asc L) (x : List Nat) : ∃ p, Pos L x p := by
 obtain ⟨p, h1, h2, h3⟩ := Xe (fun y => ltN y x) L
 refine ⟨p, h1, fun hk hy => h2 hk hy, @fun k y hk hy => ?_⟩
 by_cases hkp : k = p
 · subst hkp; exact h3 hy
 · have hlt : k < L.length := (List.getElem?_eq_some_iff.1 hy).1
   have hpk : p < k := by omega
   obtain ⟨z, hz⟩ : ∃ z, L[p]? = some z := ⟨_, List.getElem?_eq_getElem (show p < L.length by omega)⟩
   have hzy := hasc hpk hz hy
   rw [Bool.eq_false_iff]
   intro hyx
   have := Jb hzy hyx
   rw [h3 hz] at this
   cases this
theorem KU (L : List (List Nat)) (x : List Nat) (hasc : Asc L) (hl : L.length < 2 ^ 62) (s : St) : ∃ p, Pos L x p ∧ (lim prog).call AX [tx L, .s x] s = some (.tup [.i .i64 (p : Nat), .b (decide (L[p]? = some x))], s) := by
 have hex : ∃ p, Pos L x p := pos_ex hasc x
 obtain ⟨p, hp⟩ := hex
 refine ⟨p, hp, fn_W EP rfl rfl ?_⟩
 simp only [Aw, go_sem, AD, AA, AC, AB, KB_n, KB_x, Nat.reduceBEq, Nat.reduceAdd, Nat.reduceLT, Nat.reduceLeDiff, Nat.reduceEqDiff, reduceIte, Int.reduceEq, reduceCtorEq, List.length_map]
 refine CI (fun n e q => q = s.enter ∧ ∃ i j : Nat, i + n = j ∧ i ≤ p ∧ p ≤ j ∧ j ≤ L.length ∧ e.get 0 = tx L ∧ e.get 1 = .s x ∧ e.get 6 = .i .i64 (L.length : Nat) ∧ e.get 7 = .i .i64 (i : Nat) ∧ e.get 8 = .i .i64 (j : Nat)) ?_ L.length _ _ ?_
 · rintro n e q ⟨rfl, i, j, hij, hip, hpj, hj, g0, g1, g6, g7, g8⟩
   by_cases h : i < j
   · have e1 : ((i : Int) < (j : Int)) = True := eq_true (by omega)
     have hs1 : IntKind.i64.wrap ((i : Int) + (j : Int)) = ((i + j : Nat) : Int) := by
      rw [show (i : Int) + (j : Int) = ((i + j : Nat) : Int) by omega]; exact Cz (by omega)
     have hs2 := wrapU (show i + j < 2 ^ 64 by omega)
     have hs3 := Cz (show (i + j) / 2 < 2 ^ 63 by omega)
     obtain ⟨m, hm⟩ : ∃ m, (i + j) / 2 = m := ⟨_, rfl⟩
     rw [hm] at hs3
     obtain ⟨y, hy⟩ : ∃ y, L[m]? = some y := ⟨_, List.getElem?_eq_getElem (by omega)⟩
     have hy2 : (L.map AV.s)[m]? = some (.s y) := by rw [List.getElem?_map, hy]; rfl
     have hw1 := Ax (show m + 1 < 2 ^ 63 by omega)
     have hsh := shr1 (i + j)
     rw [hm] at hsh
     cases hlt : ltN y x with
     | true =>
       have : m < p := by
        refine Nat.lt_of_not_le fun hh => ?_
        have := hp.hi hh hy
        rw [hlt] at this; cases this
       simp only [go_sem, AD, AA, AC, AB, KB_n, KB_x, Nat.reduceBEq, Nat.reduceAdd, Nat.reduceLT, Nat.reduceLeDiff, Nat.reduceEqDiff, reduceIte, Int.reduceEq, reduceCtorEq, g0, g1, g6, g7, g8, e1, hs1, hs2, hsh, hs3, AK, hy2, Bi, DW, Rv, hlt, hw1]
       exact ⟨j - (m + 1), by omega, m + 1, j, by omega, by omega, by omega, hj, rfl, rfl⟩
     | false =>
       have : p ≤ m := by
        refine Nat.le_of_not_lt fun hh => ?_
        have := hp.lo hh hy
        rw [hlt] at this; cases this
       simp only [go_sem, AD, AA, AC, AB, KB_n, KB_x, Nat.reduceBEq, Nat.reduceAdd, Nat.reduceLT, Nat.reduceLeDiff, Nat.reduceEqDiff, reduceIte, Int.reduceEq, reduceCtorEq, g0, g1, g6, g7, g8, e1, hs1, hs2, hsh, hs3, AK, hy2, Bi, DW, Rv, hlt]
       exact ⟨m - i, by omega, i, m, by omega, by omega, by omega, by omega, rfl, rfl⟩
   · have e1 : ((i : Int) < (j : Int)) = False := eq_false (by omega)
     obtain rfl : i = p := by omega
     have hbr : ∀ b, KR s [.id, .id] (.tup [.i .i64 (i : Nat), .b b]) (some ([.i .i64 (i : Nat), .b b], s.enter)) := fun b => AI (Over.enter s) rfl rfl
     by_cases h2 : i < L.length
     · have e2 : ((i : Int) < (L.length : Int)) = True := eq_true (by omega)
       obtain ⟨y, hy⟩ : ∃ y, L[i]? = some y := ⟨_, List.getElem?_eq_getElem h2⟩
       have hy2 : (L.map AV.s)[i]? = some (.s y) := by rw [List.getElem?_map, hy]; rfl
       by_cases h3 : y = x
       · have e3 : (y = x) = True := by simp [h3]
         rw [decide_eq_true (by rw [hy, h3] : L[i]? = some x)]
         simp only [go_sem, AD, AA, AC, AB, KB_n, KB_x, Nat.reduceBEq, Nat.reduceAdd, Nat.reduceLT, Nat.reduceLeDiff, Nat.reduceEqDiff, reduceIte, Int.reduceEq, reduceCtorEq, g0, g1, g6, g7, g8, e1, e2, AK, hy2, Bi, DW, e3]
         exact hbr _
       · have e3 : (y = x) = False := by simp [h3]
         rw [decide_eq_false (by rw [hy]; simpa using h3 : ¬ L[i]? = some x)]
         simp only [go_sem, AD, AA, AC, AB, KB_n, KB_x, Nat.reduceBEq, Nat.reduceAdd, Nat.reduceLT, Nat.reduceLeDiff, Nat.reduceEqDiff, reduceIte, Int.reduceEq, reduceCtorEq, g0, g1, g6, g7, g8, e1, e2, AK, hy2, Bi, DW, e3, ZC]
         exact hbr _
     · have e2 : ((i : Int) < (L.length : Int)) = False := eq_false (by omega)
       rw [decide_eq_false (by rw [List.getElem?_eq_none (by omega)]; simp : ¬ L[i]? = some x)]
       simp only [go_sem, AD, AA, AC, AB, KB_n, KB_x, Nat.reduceBEq, Nat.reduceAdd, Nat.reduceLT, Nat.reduceLeDiff, Nat.reduceEqDiff, reduceIte, Int.reduceEq, reduceCtorEq, g0, g1, g6, g7, g8, e1, e2]
       exact hbr _
 · simp only [go_sem, AD, AA, AC, AB, KB_n, KB_x, Nat.reduceBEq, Nat.reduceAdd, Nat.reduceLT, Nat.reduceLeDiff, Nat.reduceEqDiff, reduceIte, Int.reduceEq, reduceCtorEq]
   have := hp.le
   exact ⟨0, L.length, by omega, by omega, by omega, by omega, rfl, rfl⟩
end Go.Proofs.YtbfgoopcnkeblaaGreat

namespace Go.Proofs.YtbfgoopcnkeblaaGreat
open Go.Proofs.YtbfgoopcnkeblaaGreat.Am
theorem MM : ∀ (p : Option (List Nat)) (ns : List (List Nat)) (ks : List ND), ns.length = ks.length → Eg p ns ks = true →
    (∀ {i : Nat} {k : ND}, ks[i]? = some k → C8 k = true) ∧ (∀ {i : Nat} {s : List Nat}, ns[i]? = some s → HQ s = true) ∧ (∀ q, p = some q → ∀ {i : Nat} {s : List Nat}, ns[i]? = some s → ltN q s = true) ∧ Asc ns
 | p, [], [], _, _ => ⟨fun h => by simp at h, fun h => by simp at h, fun _ _ _ _ h => by simp at h, fun _ h => by simp at h⟩
 | p, a :: ns, b :: ks, hl, h => by
   simp only [Eg, Bool.and_eq_true] at h
   obtain ⟨h1, h2, h3, h4⟩ := h
   obtain ⟨k1, k2, k3, k4⟩ := MM (some a) ns ks (by simpa using hl) h4
   refine ⟨@fun i k hk => ?_, @fun i s hs => ?_, fun q hq => @fun i s hs => ?_, @fun i j x y hij hx hy => ?_⟩
   · cases i with
     | zero => simp only [List.getElem?_cons_zero, Option.some.injEq] at hk; rw [← hk]; exact h3
     | succ i => exact k1 (i := i) (by simpa using hk)
   · cases i with
     | zero => simp only [List.getElem?_cons_zero, Option.some.injEq] at hs; rw [← hs]; exact h1
     | succ i => exact k2 (i := i) (by simpa using hs)
   · subst hq
     have h2 : ltN q a = true := h2
     cases i with
     | zero => simp only [List.getElem?_cons_zero, Option.some.injEq] at hs; rw [← hs]; exact h2
     | succ i => exact Jb h2 (k3 a rfl (i := i) (by simpa using hs))
   · cases j with
     | zero => omega
     | succ j =>
       have hy : ns[j]? = some y := by simpa using hy
       cases i with
       | zero => simp only [List.getElem?_cons_zero, Option.some.injEq] at hx; rw [← hx]; exact k3 a rfl hy
       | succ i => exact k4 (i := i) (j := j) (by omega) (by simpa using hx) hy
 | _, [], _ :: _, hl, _ => by simp at hl
 | _, _ :: _, [], hl, _ => by simp at hl
structure WellD (n : ND) : Prop where
 len : n.names.length = n.kids.length
 kid : ∀ {i : Nat} {k : ND}, n.kids[i]? = some k → C8 k = true
 name : ∀ {i : Nat} {s : List Nat}, n.names[i]? = some s → HQ s = true
 asc : Asc n.names
theorem wellD {n : ND} (h : C8 n = true) : WellD n := by
 rw [IS] at h
 split at h
 · simp only [Bool.and_eq_true, decide_eq_true_eq] at h
   obtain ⟨h1, h2, _⟩ := h
   have h2 : n.kids = [] := List.length_eq_zero_iff.1 h2
   exact ⟨by rw [h1, h2]; rfl, fun h => by rw [h2] at h; simp at h, fun h => by rw [h1] at h; simp at h, fun _ h => by rw [h1] at h; simp at h⟩
 · split at h
   · simp only [Bool.and_eq_true, decide_eq_true_eq] at h
     obtain ⟨_, h2, h3⟩ := h
     obtain ⟨k1, k2, _, k4⟩ := MM none _ _ h2 h3
     exact ⟨h2, k1, k2, k4⟩
   · cases h
def noN : ND := .mk 0 [] [] []
def kidN (n : ND) (s : List Nat) : Option ND := if n.kind = 2 then match n.names.findIdx? (· == s) with
 | some i => n.kids[i]?
 | none => none else none
def IY : ND → List (List Nat) → Option ND
 | n, [] => some n
 | n, s :: p => match kidN n s with
   | some k => IY k p
   | none => none
theorem MN : ∀ a : List Nat, ltN a a = false
 | [] => rfl
 | c :: a => by
   have : Nat.blt c c = false := by rw [Bool.eq_false_iff]; intro h; rw [Nat.blt_eq] at h; omega
   simp only [ltN, this, MN a, Bool.and_false, Bool.or_self]
theorem U7 {L : List (List Nat)} (hasc : Asc L) {x : List Nat} {p : Nat} (hp : Pos L x p) : L.findIdx? (· == x) = if L[p]? = some x then some p else none := by
 by_cases h : L[p]? = some x
 · rw [if_pos h, List.findIdx?_eq_some_iff_getElem]
   obtain ⟨h1, h2⟩ := List.getElem?_eq_some_iff.1 h
   refine ⟨h1, by simp [h2], fun j hj => ?_⟩
   have hlt := hp.lo hj (List.getElem?_eq_getElem (show j < L.length by omega))
   simp only [beq_iff_eq]
   intro he
   rw [he, MN] at hlt
   cases hlt
 · rw [if_neg h, List.findIdx?_eq_none_iff]
   intro y hy
   obtain ⟨j, hj, rfl⟩ := List.mem_iff_getElem.1 hy
   have hg := List.getElem?_eq_getElem hj
   simp only [beq_eq_false_iff_ne, ne_eq]
   intro he
   rw [he] at hg
   by_cases hjp : j < p
   · have := hp.lo hjp hg
     rw [MN] at this; cases this
   · by_cases hjp2 : j = p
     · subst hjp2; exact h hg
     · have hpj : p < j := by omega
       obtain ⟨z, hz⟩ : ∃ z, L[p]? = some z := ⟨_, List.getElem?_eq_getElem (show p < L.length by omega)⟩
       have h1 := hasc hpj hz hg
       have h2 := hp.hi (Nat.le_refl _) hz
       rw [h1] at h2; cases h2

attribute [local irreducible] W WO WE WQ WD Tr.get Tr.set
theorem MP : ∀ n : ND, n.Ok → ∀ s, Wf s → (lim prog).call B5 [.agg n.cells, .agg n.cells] s = some (.b true, s) := by
 refine ND.ind fun n ih ho s hw => ?_
 refine fn_W HY rfl rfl ?_
 have H1 := ((Hp.begin hw).new (.cells 30 n.cells)).new (.cells 30 n.cells)
 rw [Lv] at H1
 generalize hq : (s.enter.new (.cells 30 n.cells)).new (.cells 30 n.cells) = q at H1
 generalize hm : s.enter.nb = m at H1
 have a0 := H1.ld 1 (off := 0) (v := .i .u8 (n.kind : Nat)) rfl rfl
 have a1 := H1.ld 1 (off := 1) (v := .s n.text) rfl rfl
 have a2 := H1.ld 1 (off := 2) (v := tx n.names) rfl rfl
 have a3 := H1.ld 1 (off := 3) (v := .ws false 4 (n.kids.map ND.av)) rfl rfl
 have b0 := H1.ld 0 (off := 0) (v := .i .u8 (n.kind : Nat)) rfl rfl
 have b1 := H1.ld 0 (off := 1) (v := .s n.text) rfl rfl
 have b2 := H1.ld 0 (off := 2) (v := tx n.names) rfl rfl
 have b3 := H1.ld 0 (off := 3) (v := .ws false 4 (n.kids.map ND.av)) rfl rfl
 have hz0 : wkZ BK.cin [.agg n.cells, .agg n.cells] = [.agg n.cells, .agg n.cells] := by simp [BK, wkZ, wk, ND.cells]
 have hnl := ho.names.2
 have hkl := ho.kids.2
 rw [hz0]
 have r1 : ((n.kind : Int) ≠ (n.kind : Int)) = False := by simp
 have r2 : (n.text ≠ n.text) = False := by simp
 have r3 : ((n.names.length : Int) ≠ (n.names.length : Int)) = False := by simp
 have r4 : ((n.kids.length : Int) ≠ (n.kids.length : Int)) = False := by simp
 simp only [BK, go_sem, AD, AA, AC, AB, KB_n, KB_x, Nat.reduceBEq, Nat.reduceAdd, Nat.reduceLT, Nat.reduceLeDiff, Nat.reduceEqDiff, reduceIte, Int.reduceEq, reduceCtorEq, Af, hq, hm, a0, a1, a2, a3, b0, b1, b2, b3, Nat.zero_add, List.length_map, r1, r2, r3, r4]
 refine CI (fun x e q' => ∃ i : Nat, i + x = n.names.length ∧ q' = q ∧ e.get 2 = .p m 0 ∧ e.get 3 = .p (m + 1) 0 ∧ e.get 5 = .i .i64 (i : Nat)) ?_ n.names.length _ _ ⟨0, by omega, rfl, by simp only [go_sem, AD, AA, AC, AB, KB_n, KB_x, Nat.reduceBEq, Nat.reduceAdd, Nat.reduceLT, Nat.reduceLeDiff, Nat.reduceEqDiff, reduceIte, Int.reduceEq, reduceCtorEq], by simp only [go_sem, AD, AA, AC, AB, KB_n, KB_x, Nat.reduceBEq, Nat.reduceAdd, Nat.reduceLT, Nat.reduceLeDiff, Nat.reduceEqDiff, reduceIte, Int.reduceEq, reduceCtorEq], by simp only [go_sem, AD, AA, AC, AB, KB_n, KB_x, Nat.reduceBEq, Nat.reduceAdd, Nat.reduceLT, Nat.reduceLeDiff, Nat.reduceEqDiff, reduceIte, Int.reduceEq, reduceCtorEq]; rfl⟩
 rintro x e q' ⟨i, hi, rfl, g2, g3, g5⟩
 by_cases h : i < n.names.length
 · have e1 : ((i : Int) < (n.names.length : Int)) = True := eq_true (by omega)
   obtain ⟨y, hy⟩ : ∃ y, n.names[i]? = some y := ⟨_, List.getElem?_eq_getElem h⟩
   have hy2 : (n.names.map AV.s)[i]? = some (.s y) := by rw [List.getElem?_map, hy]; rfl
   have hw1 := Ax (show i + 1 < 2 ^ 63 by omega)
   have ry : (y ≠ y) = False := by simp
   simp only [go_sem, AD, AA, AC, AB, KB_n, KB_x, Nat.reduceBEq, Nat.reduceAdd, Nat.reduceLT, Nat.reduceLeDiff, Nat.reduceEqDiff, reduceIte, Int.reduceEq, reduceCtorEq, g2, g3, g5, a2, b2, List.length_map, e1, AK, hy2, Bi, DW, ry, hw1, Nat.zero_add]
   exact ⟨x - 1, by omega, i + 1, by omega, rfl⟩
 · have e1 : ((i : Int) < (n.names.length : Int)) = False := eq_false (by omega)
   simp only [go_sem, AD, AA, AC, AB, KB_n, KB_x, Nat.reduceBEq, Nat.reduceAdd, Nat.reduceLT, Nat.reduceLeDiff, Nat.reduceEqDiff, reduceIte, Int.reduceEq, reduceCtorEq, g2, g3, g5, a2, List.length_map, e1, Nat.zero_add]
   refine CI (fun x e q'' => ∃ i : Nat, i + x = n.kids.length ∧ q'' = q' ∧ e.get 2 = .p m 0 ∧ e.get 3 = .p (m + 1) 0 ∧ e.get 6 = .i .i64 (i : Nat)) ?_ n.kids.length _ _ ⟨0, by omega, rfl, by simp only [go_sem, AD, AA, AC, AB, KB_n, KB_x, Nat.reduceBEq, Nat.reduceAdd, Nat.reduceLT, Nat.reduceLeDiff, Nat.reduceEqDiff, reduceIte, Int.reduceEq, reduceCtorEq, g2], by simp only [go_sem, AD, AA, AC, AB, KB_n, KB_x, Nat.reduceBEq, Nat.reduceAdd, Nat.reduceLT, Nat.reduceLeDiff, Nat.reduceEqDiff, reduceIte, Int.reduceEq, reduceCtorEq, g3], by simp only [go_sem, AD, AA, AC, AB, KB_n, KB_x, Nat.reduceBEq, Nat.reduceAdd, Nat.reduceLT, Nat.reduceLeDiff, Nat.reduceEqDiff, reduceIte, Int.reduceEq, reduceCtorEq]; rfl⟩
   rintro x e q'' ⟨i, hi, rfl, g2, g3, g6⟩
   by_cases h : i < n.kids.length
   · have e1 : ((i : Int) < (n.kids.length : Int)) = True := eq_true (by omega)
     obtain ⟨k, hk1⟩ : ∃ k, n.kids[i]? = some k := ⟨_, List.getElem?_eq_getElem h⟩
     have hmem : k ∈ n.kids := List.mem_of_getElem? hk1
     have hget := Hw hk1
     have hld : ldA q'' true 4 (.ep k.cells 0 .shut) = some (.agg k.cells) := rfl
     have hc := ih k hmem (ho.kids.1 k hmem) q'' H1.wf
     have hw1 := Ax (show i + 1 < 2 ^ 63 by omega)
     have hnt : k.cells.all noTok = true := rfl
     simp only [go_sem, AD, AA, AC, AB, KB_n, KB_x, Nat.reduceBEq, Nat.reduceAdd, Nat.reduceLT, Nat.reduceLeDiff, Nat.reduceEqDiff, reduceIte, Int.reduceEq, reduceCtorEq, g2, g3, g6, a3, b3, List.length_map, e1, AK, hget, hld, hnt, AU, hc, hw1, Nat.zero_add, true_and]
     exact ⟨x - 1, by omega, i + 1, by omega, rfl⟩
   · have e1 : ((i : Int) < (n.kids.length : Int)) = False := eq_false (by omega)
     simp only [go_sem, AD, AA, AC, AB, KB_n, KB_x, Nat.reduceBEq, Nat.reduceAdd, Nat.reduceLT, Nat.reduceLeDiff, Nat.reduceEqDiff, reduceIte, Int.reduceEq, reduceCtorEq, g2, g3, g6, a3, List.length_map, e1, Nat.zero_add]
     exact AI H1.over rfl rfl

def rootF : FT := ⟨true, 2, [], [], 0, 0⟩
theorem XC : ∀ f ∈ [rootF], f.Ok := by
 intro f hf
 simp only [List.mem_singleton] at hf
 subst hf
 exact ⟨by simp [rootF], by simp [rootF], by simp [rootF], by simp [rootF]⟩
theorem Va : mayP [rootF] = true := by decide +kernel
theorem Sr (s : St) : (lim prog).call IP [] s = some (fx [rootF], s) := by
 refine fn_W SS rfl rfl ?_
 have ha : Ar 6 [AV.agg [AV.b true, AV.i IntKind.u8 2, AV.nsl, AV.nsl, AV.i IntKind.i64 0, AV.i IntKind.i64 0]] = true := rfl
 simp only [Gm, go_sem, AD, AA, AC, AB, KB_n, KB_x, Nat.reduceBEq, Nat.reduceAdd, Nat.reduceLT, Nat.reduceLeDiff, Nat.reduceEqDiff, reduceIte, Int.reduceEq, reduceCtorEq, ha]
 exact AI (Over.enter s) rfl rfl
def F7 (n : TD) : Bool := C8 n.nd && decide (n.kind = 2)
theorem Vb (n : TD) (ho : n.Ok) (hwh : EV n = true) (s : St) (hw : Wf s) : (lim prog).call Fv [fx [rootF], .agg n.cells] s = some (.b (F7 n), s) := by
 obtain ⟨hr, hb, hkw⟩ := HR hwh
 refine fn_W MF rfl rfl ?_
 have H1 := (Hp.begin hw).new (.cells 34 n.cells)
 generalize hq : s.enter.new (.cells 34 n.cells) = q at H1
 generalize hm : s.enter.nb = m at H1
 have l0 : ldA q false 1 (.p m 0) = some (.i .i64 (-1)) := by rw [← hr]; exact H1.ld 0 (off := 0) (v := .i .i64 n.ref) rfl rfl
 have l1 := H1.ld 0 (off := 1) (v := .i .u8 (n.kind : Nat)) rfl rfl
 have lw := H1.ldw 0 (m := 6) rfl rfl
 have hz0 : wkZ Ci.cin [fx [rootF], .agg n.cells] = [fx [rootF], .agg n.cells] := by simp [Ci, wkZ, wk, TD.cells, fx]
 have hbr : ∀ b, KR s [.id] (.b b) (some ([.b b], q)) := fun b => AI H1.over rfl rfl
 have hM := NF [rootF] XC (by simp) (by simp [flatK, rootF]) q H1.wf
 rw [Va] at hM
 have hS := NQ [rootF] n ho hwh q H1.wf
 have m1_lt : ((-1 : Int) < 0) = True := by simp
 rw [hz0]
 unfold F7
 cases hwn : C8 n.nd with
 | false =>
   rw [hwn] at hS
   simp only [Ci, go_sem, AD, AA, AC, AB, KB_n, KB_x, Nat.reduceBEq, Nat.reduceAdd, Nat.reduceLT, Nat.reduceLeDiff, Nat.reduceEqDiff, reduceIte, Int.reduceEq, reduceCtorEq, Bf, hq, hm, l0, l1, lw, Hx, A2, hM, hS, Nat.zero_add, Bool.false_and]
   exact hbr _
 | true =>
   rw [hwn] at hS
   by_cases c2 : n.kind = 2
   · have e2 : ((n.kind : Int) = 2) = True := eq_true (by omega)
     rw [decide_eq_true c2]
     simp only [Ci, go_sem, AD, AA, AC, AB, KB_n, KB_x, Nat.reduceBEq, Nat.reduceAdd, Nat.reduceLT, Nat.reduceLeDiff, Nat.reduceEqDiff, reduceIte, Int.reduceEq, reduceCtorEq, Bf, hq, hm, l0, l1, lw, Hx, A2, hM, hS, Nat.zero_add, P5, m1_lt, e2]
     exact hbr _
   · have e2 : ((n.kind : Int) = 2) = False := eq_false (by omega)
     rw [decide_eq_false c2]
     simp only [Ci, go_sem, AD, AA, AC, AB, KB_n, KB_x, Nat.reduceBEq, Nat.reduceAdd, Nat.reduceLT, Nat.reduceLeDiff, Nat.reduceEqDiff, reduceIte, Int.reduceEq, reduceCtorEq, Bf, hq, hm, l0, l1, lw, Hx, A2, hM, hS, Nat.zero_add, P5, m1_lt, e2]
     exact hbr _
end Go.Proofs.YtbfgoopcnkeblaaGreat

namespace Go.Proofs.YtbfgoopcnkeblaaGreat
open Go.Proofs.YtbfgoopcnkeblaaGreat.Am



theorem Q0 : ∀ l : List ND, (∀ k ∈ l, beqA k.av k.av = true) → Di (l.map ND.av) (l.map ND.av) = true
 | [], _ => rfl
 | k :: l, h => by
   simp only [List.map_cons, Di, h k (by simp), Q0 l fun x hx => h x (by simp [hx]), Bool.and_self]
theorem bN : ∀ n : ND, beqA n.av n.av = true := by
 refine ND.ind fun n ih => ?_
 rw [ND.av_eq]
 simp only [beqA, ND.cells, Di, tx, Gj, J1, Q0 n.kids ih, decide_true, Bool.and_self, Nat.beq_refl, beq_self_eq_true]
theorem Q1 : ∀ l : List TD, (∀ k ∈ l, beqA k.av k.av = true) → Di (l.map TD.av) (l.map TD.av) = true
 | [], _ => rfl
 | k :: l, h => by
   simp only [List.map_cons, Di, h k (by simp), Q1 l fun x hx => h x (by simp [hx]), Bool.and_self]
theorem bT : ∀ n : TD, beqA n.av n.av = true := by
 refine TD.ind fun n ih => ?_
 rw [TD.av_eq]
 simp only [beqA, TD.cells, Di, tx, Gj, J1, Q1 n.kids ih, decide_true, Bool.and_self, Nat.beq_refl, beq_self_eq_true]
theorem shut_t (k : TD) (s : St) : QO false s (.agg k.cells) = some (.agg k.cells, s) := rfl
theorem al4n (k : ND) : Ar 4 [AV.agg k.cells] = true := rfl
theorem al6t (k : TD) : Ar 6 [AV.agg k.cells] = true := rfl
theorem le16 : (1 ≤ 6) = True := by simp
theorem NR : ∀ {p : Option (List Nat)} {ns : List (List Nat)} {ks : List ND}, ns.length = ks.length → Eg p ns ks = true → ∀ k ∈ ks, C8 k = true
 | _, _, [], _, _ => by simp
 | _, [], _ :: _, h, _ => by simp at h
 | _, s :: ns, k :: ks, h, hw => by
   simp only [Eg, Bool.and_eq_true] at hw
   intro x hx
   rcases List.mem_cons.1 hx with rfl | hx
   · exact hw.2.2.1
   · exact NR (by simpa using h) hw.2.2.2 x hx
theorem NS {n : ND} (h : C8 n = true) : n.names.length = n.kids.length ∧ (∀ k ∈ n.kids, C8 k = true) ∧ n.kind ≠ 0 := by
 rw [IS] at h
 by_cases c1 : n.kind = 1 ∨ n.kind = 3
 · rw [if_pos c1] at h
   simp only [Bool.and_eq_true, decide_eq_true_eq] at h
   have hk : n.kids = [] := List.length_eq_zero_iff.1 h.2.1
   refine ⟨by rw [h.1, hk]; rfl, by rw [hk]; simp, by omega⟩
 · rw [if_neg c1] at h
   by_cases c2 : n.kind = 2
   · rw [if_pos c2] at h
     simp only [Bool.and_eq_true, decide_eq_true_eq] at h
     exact ⟨h.2.1, NR h.2.1 h.2.2, by omega⟩
   · rw [if_neg c2] at h; cases h

theorem XD (l : List TD) : AV.refs.go (l.map TD.av) = false := by
 induction l with
 | nil => rfl
 | cons a l il => simp only [List.map_cons, AV.refs.go, R0, il, Bool.or_self]
theorem ZI (c : CT) (l : List TD) (hc : ∀ k ∈ l, wk c k.av = k.av) : wkM c (l.map TD.av) = l.map TD.av := by
 induction l with
 | nil => rfl
 | cons a l ih => simp only [List.map_cons, wkM, hc a (by simp), ih fun k hk => hc k (by simp [hk])]
theorem Vc (f : ND) (s : St) : ldA s true 4 (.ep f.cells 0 .shut) = some (.agg f.cells) := rfl
theorem P6 (k : ND) : k.cells.all noTok = true := rfl

attribute [local irreducible] W WO WE WQ WD Tr.get Tr.set
theorem ZJ : ∀ n : ND, n.Ok → ∀ s, Wf s → (lim prog).call Fa [.agg n.cells] s = some (.agg n.td.cells, s) := by
 refine ND.ind fun n ih ho s hw => ?_
 refine fn_W OA rfl rfl ?_
 have H0 := (Hp.begin hw).new (.cells 30 n.cells)
 generalize hq : s.enter.new (.cells 30 n.cells) = q at H0
 generalize hm : s.enter.nb = m at H0
 have H1 := H0.new (.cells 34 [.i .i64 0, .i .u8 0, .s [], .i .i64 0, .nsl, .nsl])
 generalize hq1 : q.new (.cells 34 [.i .i64 0, .i .u8 0, .s [], .i .i64 0, .nsl, .nsl]) = q1 at H1
 generalize hm1 : q.nb = m1 at H1
 have hnl := ho.names.2
 have hkl := ho.kids.2
 have l1 := H1.ld 1 (off := 0) (v := .i .u8 (n.kind : Nat)) rfl rfl
 have l2 := H1.ld 1 (off := 1) (v := .s n.text) rfl rfl
 have l3 := H1.ld 1 (off := 2) (v := tx n.names) rfl rfl
 obtain ⟨r, s1, a1, q2, d1, d2, t1, H2, _⟩ := Un H1 n.names (by omega)
 have l1b := H2.ld 1 (off := 0) (v := .i .u8 (n.kind : Nat)) rfl rfl
 have l2b := H2.ld 1 (off := 1) (v := .s n.text) rfl rfl
 obtain ⟨q3, d3, H3, _⟩ := H2.adp (T := 34) (m := 6) (z := [.i .i64 0, .i .u8 0, .s [], .i .i64 0, .nsl, .nsl]) (v := .agg [.i .i64 (-1), .i .u8 (n.kind : Nat), .s n.text, .i .i64 (-1), a1, .nsl]) rfl ⟨rfl, by simp only [B4, Am.ones, t1.ones]⟩
 generalize hm2 : q2.nb = m2 at d3 H3
 have l4 := H3.ld 2 (off := 3) (v := .ws false 4 (n.kids.map ND.av)) rfl rfl
 have hz0 : wkZ D2.cin [.agg n.cells] = [.agg n.cells] := by simp [D2, wkZ, wk, ND.cells]
 have c1 : a1.cells = [a1] := t1.cells.1
 rw [hz0]
 simp only [D2, go_sem, AD, AA, AC, AB, KB_n, KB_x, Nat.reduceBEq, Nat.reduceAdd, Nat.reduceLT, Nat.reduceLeDiff, Nat.reduceEqDiff, reduceIte, Int.reduceEq, reduceCtorEq, Af, hq, hm, hq1, hm1, Nat.zero_add]
 refine JS rfl ?_
 simp only [go_sem, AD, AA, AC, AB, KB_n, KB_x, Nat.reduceBEq, Nat.reduceAdd, Nat.reduceLT, Nat.reduceLeDiff, Nat.reduceEqDiff, reduceIte, Int.reduceEq, reduceCtorEq, l1, l2, l3, d1, d2, t1.pub, t1.noTok, c1, hm2, d3, Nat.zero_add]
 refine SR rfl ?_ (Yw _ _) ⟨⟨_, rfl, l1⟩, ⟨_, rfl, l1⟩, ⟨_, rfl, l1⟩, ⟨_, rfl, l1⟩, ⟨_, rfl, l1⟩, ⟨_, rfl, l1⟩, ⟨_, rfl, l1⟩, ⟨_, rfl, l1b⟩, trivial⟩ ?_
 · simp only [go_sem, AD, AA, AC, AB, KB_n, KB_x, Nat.reduceBEq, Nat.reduceAdd, Nat.reduceLT, Nat.reduceLeDiff, Nat.reduceEqDiff, reduceIte, Int.reduceEq, reduceCtorEq]
 refine SR rfl ?_ (Yx _) ⟨⟨_, rfl, l2⟩, ⟨_, rfl, l2⟩, ⟨_, rfl, l2⟩, ⟨_, rfl, l2⟩, ⟨_, rfl, l2⟩, ⟨_, rfl, l2b⟩, trivial⟩ (JT ?_)
 · simp only [go_sem, AD, AA, AC, AB, KB_n, KB_x, Nat.reduceBEq, Nat.reduceAdd, Nat.reduceLT, Nat.reduceLeDiff, Nat.reduceEqDiff, reduceIte, Int.reduceEq, reduceCtorEq]
 simp only [go_sem, AD, AA, AC, AB, KB_n, KB_x, Nat.reduceBEq, Nat.reduceAdd, Nat.reduceLT, Nat.reduceLeDiff, Nat.reduceEqDiff, reduceIte, Int.reduceEq, reduceCtorEq, l4, List.length_map, Nat.zero_add]
 refine CI (fun x e q => ∃ (i : Nat) (a : AV), i + x = n.kids.length ∧ Hp s q s.en [⟨6, 34, a, ((n.kids.map ND.td).take i).map TD.av, true⟩] [(m2, .cells 34 [.i .i64 (-1), .i .u8 (n.kind : Nat), .s n.text, .i .i64 (-1), a1, a]), (m1, .cells 34 [.i .i64 0, .i .u8 0, .s [], .i .i64 0, .nsl, .nsl]), (m, .cells 30 n.cells)] ∧
  e.get 2 = .p m1 0 ∧ e.get 3 = .p m2 0 ∧ e.get 15 = .ws false 4 (n.kids.map ND.av) ∧ e.get 16 = .i .i64 (n.kids.length : Nat) ∧ e.get 17 = .i .i64 (i : Nat)) ?_ n.kids.length _ _ ?_
 · rintro x e q' ⟨i, a, hi, H, g2, g3, g15, g16, g17⟩
   by_cases h : i < n.kids.length
   · have e1 : ((i : Int) < (n.kids.length : Int)) = True := eq_true (by omega)
     obtain ⟨k, hk⟩ : ∃ k, n.kids[i]? = some k := ⟨_, List.getElem?_eq_getElem h⟩
     have hmem : k ∈ n.kids := List.mem_of_getElem? hk
     have hk2 := Hw hk
     have hkn : (n.kids.map ND.td)[i]? = some k.td := by rw [List.getElem?_map, hk]; rfl
     have H4 := H.new (.cells 30 [.i .u8 0, .s [], .nsl, .nsl])
     generalize hq4 : q'.new (.cells 30 [.i .u8 0, .s [], .nsl, .nsl]) = q4 at H4
     generalize hj : q'.nb = j at H4
     obtain ⟨q5, d5, H5, _⟩ := H4.stw 0 (v := .agg k.cells) (m := 4) rfl rfl ⟨Af k, GU k⟩
     have l3 := H5.ld 1 (off := 5) rfl rfl
     have lw := H5.ldw 0 (m := 4) rfl rfl
     have r0 := H5.rld 0 rfl
     have hst := H5.still 0 rfl (Q1 _ fun k _ => bT k)
     have hc := ih k hmem (ho.kids.1 k hmem) q5 H5.wf
     obtain ⟨a', q8, d8, H8, _⟩ := H5.app 0 (y := .sl 6 [.agg k.td.cells] .full) (ys := [.agg k.td.cells]) rfl (by simp [elems, St.ok]) (by simp [List.length_take]; omega)
     obtain ⟨q9, d9, H9, _⟩ := H8.st 1 (off := 5) (v := a') rfl (by simp) ⟨(H8.rcells 0 rfl).1, (H8.rcells 0 rfl).2.1⟩
     have hw1 := Ax (show i + 1 < 2 ^ 63 by omega)
     simp only [go_sem, AD, AA, AC, AB, KB_n, KB_x, Nat.reduceBEq, Nat.reduceAdd, Nat.reduceLT, Nat.reduceLeDiff, Nat.reduceEqDiff, reduceIte, Int.reduceEq, reduceCtorEq, g2, g3, g15, g16, g17, e1, AK, hk2, Vc, AU, hq4, hj, d5, Nat.zero_add]
     refine JS rfl ?_
     simp only [go_sem, AD, AA, AC, AB, KB_n, KB_x, Nat.reduceBEq, Nat.reduceAdd, Nat.reduceLT, Nat.reduceLeDiff, Nat.reduceEqDiff, reduceIte, Int.reduceEq, reduceCtorEq, g3, l3, lw, r0, AU, P6, hc, shut_t, al6t, le16, d8, d9, Nat.zero_add]
     refine SR rfl ?_ hst ⟨⟨_, rfl, l3⟩, ⟨_, rfl, l3⟩, ⟨_, rfl, l3⟩, ⟨_, rfl, l3⟩, ⟨_, rfl, l3⟩, trivial⟩ (JT ?_)
     · simp only [go_sem, AD, AA, AC, AB, KB_n, KB_x, Nat.reduceBEq, Nat.reduceAdd, Nat.reduceLT, Nat.reduceLeDiff, Nat.reduceEqDiff, reduceIte, Int.reduceEq, reduceCtorEq, g3]
     simp only [go_sem, AD, AA, AC, AB, KB_n, KB_x, Nat.reduceBEq, Nat.reduceAdd, Nat.reduceLT, Nat.reduceLeDiff, Nat.reduceEqDiff, reduceIte, Int.reduceEq, reduceCtorEq, g17, hw1]
     refine ⟨x - 1, by omega, i + 1, a', by omega, ?_, g2, g3, g15, g16, rfl⟩
     have ht1 : ((n.kids.map ND.td).take (i + 1)).map TD.av = ((n.kids.map ND.td).take i).map TD.av ++ [.agg k.td.cells] := by
      rw [List.take_add_one, hkn]; simp [TD.av_eq]
     rw [ht1]
     exact H9.sel [0] [1, 2, 3] (by simp) (by simp)
   · have e1 : ((i : Int) < (n.kids.length : Int)) = False := eq_false (by omega)
     obtain rfl : i = n.kids.length := by omega
     have l6 : ldA q' true 6 (.p m2 0) = some (.agg [.i .i64 (-1), .i .u8 (n.kind : Nat), .s n.text, .i .i64 (-1), a1, a]) := H.ldw 0 (m := 6) rfl rfl
     obtain ⟨a', q6, d6, t6, H6, _⟩ := H.pub 0 rfl
     obtain ⟨q7, d7, H7, _⟩ := H6.stw 1 (v := .agg [.i .i64 (-1), .i .u8 (n.kind : Nat), .s n.text, .i .i64 (-1), a1, a']) (m := 6) rfl rfl ⟨rfl, by simp only [B4, Am.ones, t1.ones, t6.ones]⟩
     have l7 := H7.ldw 1 (m := 6) rfl rfl
     have hT1 : (n.kids.map ND.td).take n.kids.length = n.kids.map ND.td := List.take_of_length_le (by rw [List.length_map]; exact Nat.le_refl _)
     rw [hT1] at t6
     simp only [go_sem, AD, AA, AC, AB, KB_n, KB_x, Nat.reduceBEq, Nat.reduceAdd, Nat.reduceLT, Nat.reduceLeDiff, Nat.reduceEqDiff, reduceIte, Int.reduceEq, reduceCtorEq, g2, g3, g15, g16, g17, e1, l6, t1.pub, d6, d7, l7, t1.frz, t6.frz, Nat.zero_add]
     refine AI H7.over ?_ ?_
     · simp only [BW, AV.refs, AV.refs.go, t1.refs (Ea _), t6.refs (XD _), Bool.or_self]
     · have hc : ∀ (c : CT), ∀ k ∈ n.kids.map ND.td, wk (.agg [.id, .id, .id, .id, .sl 1 .id, .sl 6 c]) k.av = k.av := fun c k _ => by
        rw [TD.av_eq]; simp [wk, wkZ, TD.cells]
       simp only [BW, wkZ, wk, t1.wk (LZ _), t6.wk (ZI _ _ (hc _))]
       rw [ND.td_eq]
       rfl
 · simp only [go_sem, AD, AA, AC, AB, KB_n, KB_x, Nat.reduceBEq, Nat.reduceAdd, Nat.reduceLT, Nat.reduceLeDiff, Nat.reduceEqDiff, reduceIte, Int.reduceEq, reduceCtorEq]
   exact ⟨0, .nsl, by omega, H3.addFull 6 34 true .nil, rfl⟩
end Go.Proofs.YtbfgoopcnkeblaaGreat
