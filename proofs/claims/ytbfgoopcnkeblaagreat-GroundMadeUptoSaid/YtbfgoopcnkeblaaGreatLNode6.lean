/-
  What the functions of path come to on the abstract machine.
-/
import Derived.Test.YtbfgoopcnkeblaaGreatFns
import Derived.Test.YtbfgoopcnkeblaaGreatAmKeep
import Derived.KernelRfl
import Derived.Test.YtbfgoopcnkeblaaGreatAmRg
import Derived.Laws.RangeAny
set_option linter.all false
set_option linter.unusedVariables false
set_option linter.unusedSimpArgs false
set_option linter.unusedSectionVars false
set_option maxRecDepth 100000
namespace Go.Proofs.YtbfgoopcnkeblaaGreat
open Go.Proofs.YtbfgoopcnkeblaaGreat.Am
abbrev tx (L : List (List Nat)) : AV := .ws false 1 (L.map .s)
theorem AI (k : IntKind) (i : Nat) : CS (.i k (i : Int)) = some i := by simp [CS]
theorem Cf (s : St) (v : AV) : ldA s false 1 (.ep [v] 0 .shut) = some v := rfl
theorem BD (l : List Nat) : (AV.s l).cells = [.s l] := rfl
theorem CA {i : Nat} (h : i < 2 ^ 63) : IntKind.i64.wrap (i : Int) = i := by
 have e1 : ((i : Int) % 2 ^ 64) = i := by omega
 simp only [IntKind.wrap, IntKind.signed, IntKind.bits, e1]
 rw [if_neg]
 simp; omega
theorem Af {i : Nat} (h : i + 1 < 2 ^ 63) : IntKind.i64.wrap ((i : Int) + 1) = ((i + 1 : Nat) : Int) := by
 rw [← CA h]; simp
theorem Ax (n : Nat) : Int.ofNat n = (n : Int) := rfl
end Go.Proofs.YtbfgoopcnkeblaaGreat

/-
  Nodes of trees as plain data.
-/
set_option maxRecDepth 100000
namespace Go.Proofs.YtbfgoopcnkeblaaGreat
open Go.Proofs.YtbfgoopcnkeblaaGreat.Am
inductive ND where
 | mk (k : Nat) (t : List Nat) (ns : List (List Nat)) (ks : List ND)
def ND.kind : ND → Nat | .mk k _ _ _ => k
def ND.text : ND → List Nat | .mk _ t _ _ => t
def ND.names : ND → List (List Nat) | .mk _ _ ns _ => ns
def ND.kids : ND → List ND | .mk _ _ _ ks => ks
mutual
def ND.av : ND → AV
 | .mk k t ns ks => .agg [.i .u8 (k : Nat), .s t, tx ns, .ws false 4 (ND.avs ks)]
def ND.avs : List ND → List AV
 | [] => []
 | n :: l => n.av :: ND.avs l
end
theorem ND.avs_map : ∀ l : List ND, ND.avs l = l.map ND.av
 | [] => by simp [ND.avs]
 | n :: l => by simp only [ND.avs, ND.avs_map l, List.map_cons]
def ND.cells (n : ND) : List AV := [.i .u8 (n.kind : Nat), .s n.text, tx n.names, .ws false 4 (n.kids.map ND.av)]
theorem ND.av_eq (n : ND) : n.av = .agg n.cells := by
 cases n with
 | mk k t ns ks => simp only [ND.av, ND.avs_map, ND.cells, ND.kind, ND.text, ND.names, ND.kids]
theorem ND.lt {n k : ND} (h : k ∈ n.kids) : SizeOf.sizeOf k < SizeOf.sizeOf n := by
 cases n with
 | mk a t ns ks =>
   have h : k ∈ ks := h
   have := List.sizeOf_lt_of_mem h
   simp only [ND.mk.sizeOf_spec]
   omega
theorem ND.ind {P : ND → Prop} (h : ∀ n, (∀ k ∈ n.kids, P k) → P n) (n : ND) : P n := by
 have : ∀ (m : Nat) (n : ND), SizeOf.sizeOf n < m → P n := by
  intro m
  induction m with
  | zero => intro n hn; omega
  | succ m ih =>
    intro n hn
    exact h n fun k hk => ih k (by have := ND.lt hk; omega)
 exact this _ n (Nat.lt_succ_self _)
theorem Lj {α : Type} {f : α → Nat} {l : List α} {a : α} (h : a ∈ l) : f a ≤ (l.map f).sum := by
 induction l with
 | nil => cases h
 | cons b l ih =>
   rw [List.map_cons, List.sum_cons]
   rcases List.mem_cons.1 h with rfl | h
   · omega
   · have := ih h; omega
theorem DP {α : Type} (f : α → Nat) (l : List α) (i : Nat) : ((l.take i).map f).sum ≤ (l.map f).sum := by
 induction l generalizing i with
 | nil => simp
 | cons a l ih => cases i with
   | zero => simp
   | succ i => simp only [List.take_succ_cons, List.map_cons, List.sum_cons]; have := ih i; omega
theorem Ec {α : Type} (f : α → Nat) {l : List α} {i : Nat} {a : α} (h : l[i]? = some a) : ((l.take (i + 1)).map f).sum = ((l.take i).map f).sum + f a := by
 rw [List.take_add_one, h]
 simp
end Go.Proofs.YtbfgoopcnkeblaaGreat

/-
  ftree.Nodes and ftree.depth.
-/
set_option maxRecDepth 100000
namespace Go.Proofs.YtbfgoopcnkeblaaGreat
open Go.Proofs.YtbfgoopcnkeblaaGreat.Am
attribute [local irreducible] W WO WE WQ WD Tr.get Tr.set
theorem JH {n : ND} {i : Nat} {k : ND} (h : n.kids[i]? = some k) : (n.kids.map ND.av)[i]? = some (.agg k.cells) := by
 rw [List.getElem?_map, h, Option.map_some, ND.av_eq]
theorem BO (k : ND) : k.cells.length = 4 := rfl
theorem Pv (k : ND) : ones k.cells = true := rfl
theorem BG (k : ND) (s : St) : pubL s k.cells = some (k.cells, s) := rfl
theorem NO (k : ND) (s : St) : frzL s k.cells = some (k.cells, s) := rfl
theorem Rf : ∀ n : ND, n.av.refs = false := by
 refine ND.ind fun n ih => ?_
 have : ∀ l : List ND, (∀ k ∈ l, k.av.refs = false) → AV.refs.go (l.map ND.av) = false := by
  intro l
  induction l with
  | nil => intro _; rfl
  | cons a l il =>
    intro h
    simp only [List.map_cons, AV.refs.go, h a (by simp), il fun k hk => h k (by simp [hk]), Bool.or_self]
 rw [ND.av_eq]
 simp only [ND.cells, AV.refs, AV.refs.go, this _ ih, EY, Bool.or_self]
end Go.Proofs.YtbfgoopcnkeblaaGreat

/-
  Bytes and runes in texts; names.
-/
set_option maxRecDepth 100000
namespace Go.Proofs.YtbfgoopcnkeblaaGreat
open Go.Proofs.YtbfgoopcnkeblaaGreat.Am
/-! ### A byte in a text -/
theorem Rh {a c : Nat} (h : ¬ a = c) : Nat.beq a c = false := Bool.eq_false_iff.2 (by rw [Ne, Nat.beq_eq]; exact h)
theorem PL {c : Nat} : ∀ {l : List Nat} {n : Nat}, idxB c n l < 0 ↔ c ∉ l
 | [], n => by simp [idxB]
 | a :: l, n => by
   simp only [idxB]
   by_cases h : a = c
   · subst h
     simp [Nat.beq_eq]
   · have hb : Nat.beq a c = false := Rh h
     rw [hb, cond_false, PL]
     simp; omega
theorem NP {c : Nat} : ∀ {l : List Nat} {n : Nat}, c ∉ l → idxB c n l = -1
 | [], n, _ => rfl
 | a :: l, n, h => by
   simp only [List.mem_cons, not_or] at h
   have hb : Nat.beq a c = false := Rh (Ne.symm h.1)
   simp only [idxB]
   rw [hb, cond_false, NP h.2]
theorem ext0 (s : St) (l : List Nat) (c : Nat) (hc : c < 256) : extA s 0 [.s l, .i .u8 (c : Int)] = some (.i .i64 (idxB c 0 l), s) := by
 have h : ((IntKind.u8 = IntKind.u8) ∧ (0 : Int) ≤ (c : Int) ∧ (c : Int) < 256) := ⟨rfl, by omega, by omega⟩
 show (if _ then _ else _) = _
 rw [if_pos h]
 simp
theorem MQ (l : List Nat) (c : Nat) (hc : c < 256) (s : St) : (lim prog).call Bn [.s l, .i .u8 (c : Int)] s = some (.i .i64 (idxB c 0 l), s) := by
 refine fn_W Dy rfl rfl ?_
 simp only [BH, go_sem, Ap, AK, AJ, AL, Al, KB_n, KB_x, Nat.reduceBEq, Nat.reduceAdd, Nat.reduceLT, Nat.reduceLeDiff, Nat.reduceEqDiff, reduceIte, Int.reduceEq, reduceCtorEq, ext0 _ l c hc]
 exact AO (Over.enter s) rfl rfl
theorem FE (l : List Nat) (c : Nat) (hc : c < 256) (s : St) : (lim prog).call Bt [.s l, .i .u8 (c : Int)] s = some (.i .i64 (idxB c 0 l), s) := by
 refine fn_W Hv rfl rfl ?_
 simp only [Ct, go_sem, Ap, AK, AJ, AL, Al, KB_n, KB_x, Nat.reduceBEq, Nat.reduceAdd, Nat.reduceLT, Nat.reduceLeDiff, Nat.reduceEqDiff, reduceIte, Int.reduceEq, reduceCtorEq, MQ l c hc]
 exact AO (Over.enter s) rfl rfl
theorem NQ : CS (.i .i64 0) = some 0 := rfl
end Go.Proofs.YtbfgoopcnkeblaaGreat

/-
  Runes in "/\0\n".
-/
set_option maxRecDepth 100000
namespace Go.Proofs.YtbfgoopcnkeblaaGreat
open Go.Proofs.YtbfgoopcnkeblaaGreat.Am
theorem u8N {n : Nat} (h : n < 256) : (UInt8.ofNat n).toNat = n := by simp [UInt8.toNat_ofNat']; omega
theorem Ri {r : Int} (h0 : 128 ≤ r) (hv : Utf8.valid r = true) : (∃ a b, encN r = [a, b] ∧ 128 ≤ b ∧ b < 256) ∨ (∃ a b c, encN r = [a, b, c] ∧ 128 ≤ c ∧ c < 256) ∨ ∃ a b c d, encN r = [a, b, c, d] := by
 have hr : r ≤ 1114111 := by
  simp only [Utf8.valid, Bool.or_eq_true, Bool.and_eq_true, decide_eq_true_eq] at hv
  omega
 obtain ⟨n, rfl⟩ : ∃ n : Nat, r = n := ⟨r.toNat, by omega⟩
 simp only [encN, Utf8.encode, hv, if_true, Int.toNat_natCast]
 by_cases h1 : n < 128
 · omega
 rw [if_neg h1]
 by_cases h2 : n < 2048
 · rw [if_pos h2]
   exact .inl ⟨_, _, rfl, by show 128 ≤ (UInt8.ofNat _).toNat; rw [u8N (by omega)]; omega, by show (UInt8.ofNat _).toNat < 256; rw [u8N (by omega)]; omega⟩
 rw [if_neg h2]
 by_cases h3 : n < 65536
 · rw [if_pos h3]
   exact .inr (.inl ⟨_, _, _, rfl, by show 128 ≤ (UInt8.ofNat _).toNat; rw [u8N (by omega)]; omega, by show (UInt8.ofNat _).toNat < 256; rw [u8N (by omega)]; omega⟩)
 rw [if_neg h3]
 exact .inr (.inr ⟨_, _, _, _, rfl⟩)
theorem NR (r : Int) (s : St) : (lim prog).call Cl [.i .i32 r] s = some (.b (Utf8.valid r), s) := by
 refine fn_W FY rfl rfl ?_
 simp only [Bw, go_sem, Ap, AK, AJ, AL, Al, KB_n, KB_x, Nat.reduceBEq, Nat.reduceAdd, Nat.reduceLT, Nat.reduceLeDiff, Nat.reduceEqDiff, reduceIte, Int.reduceEq, reduceCtorEq]
 by_cases h0 : 0 ≤ r
 · by_cases h1 : r < 55296
   · simp only [go_sem, Ap, AK, AJ, AL, Al, KB_n, KB_x, Nat.reduceBEq, Nat.reduceAdd, Nat.reduceLT, Nat.reduceLeDiff, Nat.reduceEqDiff, reduceIte, Int.reduceEq, reduceCtorEq, h0, h1]
     exact AO (Over.enter s) rfl (by simp [Bo, wkZ, wk, Utf8.valid, h0, h1])
   · by_cases h2 : 57343 < r
     · by_cases h3 : r ≤ 1114111
       · simp only [go_sem, Ap, AK, AJ, AL, Al, KB_n, KB_x, Nat.reduceBEq, Nat.reduceAdd, Nat.reduceLT, Nat.reduceLeDiff, Nat.reduceEqDiff, reduceIte, Int.reduceEq, reduceCtorEq, h0, h1, h2, h3]
         refine AO (Over.enter s) rfl ?_
         have h4 : 57344 ≤ r := by omega
         simp [Bo, wkZ, wk, Utf8.valid, h3, h4]
       · simp only [go_sem, Ap, AK, AJ, AL, Al, KB_n, KB_x, Nat.reduceBEq, Nat.reduceAdd, Nat.reduceLT, Nat.reduceLeDiff, Nat.reduceEqDiff, reduceIte, Int.reduceEq, reduceCtorEq, h0, h1, h2, h3]
         refine AO (Over.enter s) rfl ?_
         simp [Bo, wkZ, wk, Utf8.valid, h1, h3]
     · simp only [go_sem, Ap, AK, AJ, AL, Al, KB_n, KB_x, Nat.reduceBEq, Nat.reduceAdd, Nat.reduceLT, Nat.reduceLeDiff, Nat.reduceEqDiff, reduceIte, Int.reduceEq, reduceCtorEq, h0, h1, h2]
       refine AO (Over.enter s) rfl ?_
       have h4 : ¬ 57344 ≤ r := by omega
       simp [Bo, wkZ, wk, Utf8.valid, h1, h4]
 · have h2 : ¬ 57343 < r := by omega
   simp only [go_sem, Ap, AK, AJ, AL, Al, KB_n, KB_x, Nat.reduceBEq, Nat.reduceAdd, Nat.reduceLT, Nat.reduceLeDiff, Nat.reduceEqDiff, reduceIte, Int.reduceEq, reduceCtorEq, h0, h2]
   refine AO (Over.enter s) rfl ?_
   have h4 : ¬ 57344 ≤ r := by omega
   simp [Bo, wkZ, wk, Utf8.valid, h0, h4]
abbrev K3 : List Nat := [47, 0, 10]
def NS (r : Int) : Int := if r < 128 then idxB r.toNat 0 K3 else -1
theorem G7 (i : Nat) : CS (.i .i64 (i : Int)) = some i := AI _ i
theorem T3 : CS (.i .i64 1) = some 1 := rfl
theorem T4 : CS (.i .i64 2) = some 2 := rfl
theorem w1 : IntKind.i64.wrap (2 - 1) = 1 := rfl
theorem w2 : IntKind.i64.wrap (3 - 1) = 2 := rfl
theorem w3 : IntKind.i64.wrap (4 - 1) = 3 := rfl
theorem w4 : IntKind.i64.wrap (1 + 1) = 2 := rfl
theorem w5 : IntKind.i64.wrap (2 + 1) = 3 := rfl
theorem bnd2 : Cn 3 (some (.i .i64 2)) none = some (2, 3) := rfl
theorem bnd3 : Cn 3 (some (.i .i64 3)) none = some (3, 3) := rfl
theorem JX (r : Int) (h0 : 0 ≤ r) (h1 : r ≤ 2147483647) (s : St) : (lim prog).call Bu [.s K3, .i .i32 r] s = some (.i .i64 (NS r), s) := by
 refine fn_W Hw rfl rfl ?_
 have h0' : ((0 : Int) ≤ r) = True := by simp [h0]
 by_cases hr : r < 128
 · have hr' : (r < 128) = True := by simp [hr]
   obtain ⟨n, rfl⟩ : ∃ n : Nat, r = n := ⟨r.toNat, by omega⟩
   have hw : IntKind.u8.wrap (n : Int) = (n : Int) := by
    have e : (n : Int) % 2 ^ 8 = n := by omega
    simp only [IntKind.wrap, IntKind.signed, IntKind.bits, e]
    rfl
   simp only [BC, go_sem, Ap, AK, AJ, AL, Al, KB_n, KB_x, Nat.reduceBEq, Nat.reduceAdd, Nat.reduceLT, Nat.reduceLeDiff, Nat.reduceEqDiff, reduceIte, Int.reduceEq, reduceCtorEq, h0', hr', hw, FE K3 n (by omega)]
   exact AO (Over.enter s) rfl (by simp [Bo, wkZ, wk, NS, hr])
 · have hr' : (r < 128) = False := by simp [hr]
   have hP : NS r = -1 := by unfold NS; rw [if_neg hr]
   by_cases he : r = 65533
   · have he' : (r = 65533) = True := by simp [he]
     simp only [BC, go_sem, Ap, AK, AJ, AL, Al, KB_n, KB_x, Nat.reduceBEq, Nat.reduceAdd, Nat.reduceLT, Nat.reduceLeDiff, Nat.reduceEqDiff, reduceIte, Int.reduceEq, reduceCtorEq, h0', hr', he']
     refine Ba (fun n e q => ∃ p : Nat, p + n = 3 ∧ q = s.enter.new (.siter K3 p) ∧ e.get 175 = .p s.enter.nb 0) ?_ 3 _ _ ?_
     · rintro n e q ⟨p, hp, rfl, g⟩
       have hs : ∀ p', (s.enter.new (.siter K3 p)).setBox s.enter.nb (.siter K3 p') = s.enter.new (.siter K3 p') := fun p' => KY _ _ _
       have h47 : ((Int.ofNat 47 : Int) = 65533) = False := by simp
       have h00 : ((Int.ofNat 0 : Int) = 65533) = False := by simp
       have h10 : ((Int.ofNat 10 : Int) = 65533) = False := by simp
       have l3 : ([47, 0, 10] : List Nat)[3]? = none := rfl
       have a1 : (47 < 128) = True := by simp
       have a2 : (0 < 128) = True := by simp
       have a3 : (10 < 128) = True := by simp
       have hov := ((Over.enter s).new (.siter K3 3))
       have : p = 0 ∨ p = 1 ∨ p = 2 ∨ p = 3 := by omega
       rcases this with rfl | rfl | rfl | rfl
       · simp only [go_sem, Ap, AK, AJ, AL, Al, KB_n, KB_x, Nat.reduceBEq, Nat.reduceAdd, Nat.reduceLT, Nat.reduceLeDiff, Nat.reduceEqDiff, reduceIte, Int.reduceEq, reduceCtorEq, g, a1, a2, a3, h47, h00, h10, hs]
         exact ⟨n - 1, by omega, 1, by omega, rfl⟩
       · simp only [go_sem, Ap, AK, AJ, AL, Al, KB_n, KB_x, Nat.reduceBEq, Nat.reduceAdd, Nat.reduceLT, Nat.reduceLeDiff, Nat.reduceEqDiff, reduceIte, Int.reduceEq, reduceCtorEq, g, a1, a2, a3, h47, h00, h10, hs]
         exact ⟨n - 1, by omega, 2, by omega, rfl⟩
       · simp only [go_sem, Ap, AK, AJ, AL, Al, KB_n, KB_x, Nat.reduceBEq, Nat.reduceAdd, Nat.reduceLT, Nat.reduceLeDiff, Nat.reduceEqDiff, reduceIte, Int.reduceEq, reduceCtorEq, g, a1, a2, a3, h47, h00, h10, hs]
         exact ⟨n - 1, by omega, 3, by omega, rfl⟩
       · simp only [go_sem, Ap, AK, AJ, AL, Al, KB_n, KB_x, Nat.reduceBEq, Nat.reduceAdd, Nat.reduceLT, Nat.reduceLeDiff, Nat.reduceEqDiff, reduceIte, Int.reduceEq, reduceCtorEq, g, l3]
         exact AO hov rfl (by rw [hP]; rfl)
     · simp only [go_sem, Ap, AK, AJ, AL, Al, KB_n, KB_x, Nat.reduceBEq, Nat.reduceAdd, Nat.reduceLT, Nat.reduceLeDiff, Nat.reduceEqDiff, reduceIte, Int.reduceEq, reduceCtorEq]
       exact ⟨0, by omega, rfl⟩
   · have he' : (r = 65533) = False := by simp [he]
     have hv := NR r
     cases hvr : Utf8.valid r with
     | false =>
       rw [hvr] at hv
       simp only [BC, go_sem, Ap, AK, AJ, AL, Al, KB_n, KB_x, Nat.reduceBEq, Nat.reduceAdd, Nat.reduceLT, Nat.reduceLeDiff, Nat.reduceEqDiff, reduceIte, Int.reduceEq, reduceCtorEq, h0', hr', he', hv]
       exact AO (Over.enter s) rfl (by rw [hP]; rfl)
     | true =>
       rw [hvr] at hv
       have hl3 : List.length K3 = 3 := rfl
       rcases Ri (show 128 ≤ r by omega) hvr with ⟨a, b, h2, hb1, hb2⟩ | ⟨a, b, c, h2, hb1, hb2⟩ | ⟨a, b, c, d, h2⟩
       · simp only [BC, go_sem, Ap, AK, AJ, AL, Al, KB_n, KB_x, Nat.reduceBEq, Nat.reduceAdd, Nat.reduceLT, Nat.reduceLeDiff, Nat.reduceEqDiff, reduceIte, Int.reduceEq, reduceCtorEq, h0', hr', he', hv, h2]
         refine Ba (fun n e q => q = s.enter ∧ e.get 0 = .s K3 ∧ e.get 7 = .s [a, b] ∧ e.get 8 = .i .i64 1 ∧ e.get 9 = .i .i64 1) ?_ 0 _ _ ?_
         · rintro n e q ⟨rfl, g0, g7, g8, g9⟩
           have c1 : ((1 : Int) < 3) = True := by simp
           have c2 : ((0 : Int) ≠ (b : Int)) = True := by simp; omega
           have hix := FE [10] b hb2 s.enter
           have hmiss : idxB b 0 [10] = -1 := NP (by simp; omega)
           rw [hmiss] at hix
           have hd : ((([47, 0, 10] : List Nat).drop 2).take (3 - 2)) = [10] := rfl
           have hm1 : ((-1 : Int) < 0) = True := by simp
           simp only [go_sem, Ap, AK, AJ, AL, Al, KB_n, KB_x, Nat.reduceBEq, Nat.reduceAdd, Nat.reduceLT, Nat.reduceLeDiff, Nat.reduceEqDiff, reduceIte, Int.reduceEq, reduceCtorEq, g0, g7, g8, g9, List.length_cons, List.length_nil, Ax, Int.cast_ofNat_Int, c1, T3, c2, w4, bnd2, hd, hix, hm1]
           exact AO (Over.enter s) rfl (by rw [hP]; rfl)
         · simp only [go_sem, Ap, AK, AJ, AL, Al, KB_n, KB_x, Nat.reduceBEq, Nat.reduceAdd, Nat.reduceLT, Nat.reduceLeDiff, Nat.reduceEqDiff, reduceIte, Int.reduceEq, reduceCtorEq, w1, List.length_cons, List.length_nil, Ax, Int.cast_ofNat_Int, and_self]
       · simp only [BC, go_sem, Ap, AK, AJ, AL, Al, KB_n, KB_x, Nat.reduceBEq, Nat.reduceAdd, Nat.reduceLT, Nat.reduceLeDiff, Nat.reduceEqDiff, reduceIte, Int.reduceEq, reduceCtorEq, h0', hr', he', hv, h2]
         refine Ba (fun n e q => q = s.enter ∧ e.get 0 = .s K3 ∧ e.get 7 = .s [a, b, c] ∧ e.get 8 = .i .i64 2 ∧ e.get 9 = .i .i64 2) ?_ 0 _ _ ?_
         · rintro n e q ⟨rfl, g0, g7, g8, g9⟩
           have c1 : ((2 : Int) < 3) = True := by simp
           have c2 : ((10 : Int) ≠ (c : Int)) = True := by simp; omega
           have hix := FE [] c hb2 s.enter
           have hmiss : idxB c 0 [] = -1 := rfl
           rw [hmiss] at hix
           have hd : ((([47, 0, 10] : List Nat).drop 3).take (3 - 3)) = [] := rfl
           have hm1 : ((-1 : Int) < 0) = True := by simp
           simp only [go_sem, Ap, AK, AJ, AL, Al, KB_n, KB_x, Nat.reduceBEq, Nat.reduceAdd, Nat.reduceLT, Nat.reduceLeDiff, Nat.reduceEqDiff, reduceIte, Int.reduceEq, reduceCtorEq, g0, g7, g8, g9, List.length_cons, List.length_nil, Ax, Int.cast_ofNat_Int, c1, T4, c2, w5, bnd3, hd, hix, hm1]
           exact AO (Over.enter s) rfl (by rw [hP]; rfl)
         · simp only [go_sem, Ap, AK, AJ, AL, Al, KB_n, KB_x, Nat.reduceBEq, Nat.reduceAdd, Nat.reduceLT, Nat.reduceLeDiff, Nat.reduceEqDiff, reduceIte, Int.reduceEq, reduceCtorEq, w2, List.length_cons, List.length_nil, Ax, Int.cast_ofNat_Int, and_self]
       · simp only [BC, go_sem, Ap, AK, AJ, AL, Al, KB_n, KB_x, Nat.reduceBEq, Nat.reduceAdd, Nat.reduceLT, Nat.reduceLeDiff, Nat.reduceEqDiff, reduceIte, Int.reduceEq, reduceCtorEq, h0', hr', he', hv, h2]
         refine Ba (fun n e q => q = s.enter ∧ e.get 0 = .s K3 ∧ e.get 9 = .i .i64 3) ?_ 0 _ _ ?_
         · rintro n e q ⟨rfl, g0, g9⟩
           have c1 : ((3 : Int) < 3) = False := by simp
           simp only [go_sem, Ap, AK, AJ, AL, Al, KB_n, KB_x, Nat.reduceBEq, Nat.reduceAdd, Nat.reduceLT, Nat.reduceLeDiff, Nat.reduceEqDiff, reduceIte, Int.reduceEq, reduceCtorEq, g0, g9, List.length_cons, List.length_nil, Ax, Int.cast_ofNat_Int, c1]
           exact AO (Over.enter s) rfl (by rw [hP]; rfl)
         · simp only [go_sem, Ap, AK, AJ, AL, Al, KB_n, KB_x, Nat.reduceBEq, Nat.reduceAdd, Nat.reduceLT, Nat.reduceLeDiff, Nat.reduceEqDiff, reduceIte, Int.reduceEq, reduceCtorEq, w3, List.length_cons, List.length_nil, Ax, Int.cast_ofNat_Int, and_self]
end Go.Proofs.YtbfgoopcnkeblaaGreat

/-
  Sets of bytes; names.
-/
set_option maxRecDepth 100000
namespace Go.Proofs.YtbfgoopcnkeblaaGreat
open Go.Proofs.YtbfgoopcnkeblaaGreat.Am
abbrev bs (B : List Bool) : List AV := B.map AV.b
section
variable {s : St} {id T n : Nat}
theorem Rj (s : St) : ∀ B : List Bool, pubL s (bs B) = some (bs B, s)
 | [] => rfl
 | b :: B => by
   simp only [bs, List.map_cons, pubL, Q0]
   rw [Rj s B]
theorem Rk (s : St) : ∀ B : List Bool, frzL s (bs B) = some (bs B, s)
 | [] => rfl
 | b :: B => by
   simp only [bs, List.map_cons, frzL, frz, Q0]
   rw [Rk s B]
theorem Rl : ∀ B : List Bool, ones (bs B) = true
 | [] => rfl
 | b :: B => by
   simp only [bs, List.map_cons, ones]
   exact Rl B
theorem OD : ∀ B : List Bool, AV.refs.go (bs B) = false
 | [] => rfl
 | b :: B => by
   simp only [bs, List.map_cons, AV.refs.go, AV.refs, Bool.false_or]
   exact OD B
theorem bs_wk : ∀ (n : Nat) (B : List Bool), wkZ (List.replicate n .id) (bs B) = bs B
 | 0, B => by simp [wkZ]
 | n + 1, [] => by simp [wkZ]
 | n + 1, b :: B => by
   have := bs_wk n B
   simp only [bs, List.map_cons, List.replicate_succ, wkZ, wk] at this ⊢
   rw [this]
theorem bs_ld {B : List Bool} (h : s.box? id = some (.cells T (bs B))) (hn : B.length = n) : ldA s true n (.p id 0) = some (.agg (bs B)) := by
 have : cut (bs B) 0 n = some (bs B) := by
  have e : (bs B).take n = bs B := List.take_of_length_le (by simp; omega)
  have e2 : (bs B).length = n := by simpa using hn
  simp only [cut, List.drop_zero, e, e2, if_true]
 simp only [ldA, St.cells?, h, this, scal]
theorem bs_ld1 {B : List Bool} {i : Nat} {b : Bool} (h : s.box? id = some (.cells T (bs B))) (hi : B[i]? = some b) : ldA s false 1 (.p id i) = some (.b b) := by
 exact O4 h (by simp [hi])
theorem bs_st {B B' : List Bool} (h : s.box? id = some (.cells T (bs B'))) (hn : B.length = n) (hn' : B'.length = n) : stA s n (.p id 0) (.agg (bs B)) = some (s.setBox id (.cells T (bs B))) := by
 have h1 : (AV.agg (bs B)).cells = bs B := rfl
 have h2 : (bs B).length = n := by simpa using hn
 have h3 : over (bs B') 0 (bs B) = some (bs B) := by
  unfold over
  rw [if_pos (by simp; omega)]
  simp [hn, hn']
 simp only [stA, h, h1, h2, Rl, and_self, if_true, h3, esc]
 have h4 : (AV.agg (bs B)).refs = false := by simp only [AV.refs]; exact OD B
 rw [h4]
 rfl
theorem Rm {B : List Bool} {i : Nat} (h : s.box? id = some (.cells T (bs B))) (hi : i < B.length) : stA s 1 (.p id i) (.b true) = some (s.setBox id (.cells T (bs (B.set i true)))) := by
 rw [Q3 h rfl rfl (by simpa using hi)]
 have : (bs B).set i (.b true) = bs (B.set i true) := by simp [bs, List.map_set]
 rw [this]
 rfl
end
def F256 : List Bool := List.replicate 256 false
abbrev Z256 : List AV := bs F256
def B3 : List Bool := ((F256.set 47 true).set 0 true).set 10 true
theorem len0 : F256.length = 256 := by simp [F256]
theorem len1' : (F256.set 47 true).length = 256 := by simp [F256]
theorem len2' : ((F256.set 47 true).set 0 true).length = 256 := by simp [F256]
theorem Rn : B3.length = 256 := by simp [B3, F256]
theorem b3_all : ((List.range 256).all fun c => B3[c]? == some (decide (c ∈ K3))) = true := by kernel_rfl
theorem b3_get {c : Nat} (h : c < 256) : B3[c]? = some (decide (c ∈ K3)) := by
 have := List.all_eq_true.1 b3_all c (by simpa using h)
 simpa using this
theorem Va : BT.body =
 (.seq (.reg [⟨(some 2), .alloc 118 Z256, none⟩,
  ⟨(some 3), .mv (.c (.b false)), none⟩])
 (.seq (.seq (.reg [⟨(some 4), .mv (.c (.i .i64 0)), none⟩])
 (.blk 0 (.loop (.seq (.seq (.reg [⟨(some 6), .mv (.t 4), none⟩,
     ⟨(some 7), .mv (.t 0), none⟩,
     ⟨(some 8), .len 0 (.t 7), none⟩,
     ⟨(some 9), .bin .lss (.t 6) (.t 8), none⟩])
  (.cond (.t 9)
   .skip
   (.exit 0)))
  (.seq (.blk 1 (.seq (.reg [⟨(some 12), .mv (.t 0), none⟩,
     ⟨(some 13), .mv (.t 4), none⟩,
     ⟨(some 14), .ixS (.t 12) (.t 13), none⟩,
     ⟨(some 5), .mv (.t 14), none⟩])
   (.seq (.seq (.reg [⟨(some 15), .mv (.t 5), none⟩,
    ⟨(some 16), .bin .geq (.t 15) (.c (.i .u8 128)), none⟩])
   (.cond (.t 16)
    (.seq (.reg [⟨(some 17), .ld true 256 (.t 2), none⟩,
     ⟨none, .st 256 (.t 2) (.t 17), none⟩,
     ⟨(some 3), .mv (.c (.b false)), none⟩])
    .ret)
    .skip))
   (.reg [⟨(some 18), .mv (.t 5), none⟩,
    ⟨(some 19), .iaA 256 1 (.t 2) (.t 18), none⟩,
    ⟨none, .st 1 (.t 19) (.c (.b true)), none⟩]))))
  (.reg [⟨(some 10), .mv (.t 4), none⟩,
   ⟨(some 11), .bin .add (.t 10) (.c (.i .i64 1)), none⟩,
   ⟨(some 4), .mv (.t 11), none⟩]))))))
 (.seq (.reg [⟨(some 20), .ld true 256 (.t 2), none⟩,
  ⟨none, .st 256 (.t 2) (.t 20), none⟩,
  ⟨(some 3), .mv (.c (.b true)), none⟩])
 .ret))) := by rfl
theorem Vb : Be.body =
 (.seq (.reg [⟨(some 4), .mv (.c (.i .i64 0)), none⟩])
 (.seq (.seq (.reg [⟨(some 11), .mv (.t 1), none⟩,
  ⟨(some 12), .bin .eql (.t 11) (.c (.s [])), none⟩])
 (.cond (.t 12)
  (.seq (.reg [⟨(some 4), .mv (.c (.i .i64 (-1))), none⟩])
  .ret)
  .skip))
 (.seq (.seq (.reg [⟨(some 13), .mv (.t 1), none⟩,
  ⟨(some 14), .len 0 (.t 13), none⟩,
  ⟨(some 15), .bin .eql (.t 14) (.c (.i .i64 1)), none⟩])
 (.cond (.t 15)
  (.seq (.reg [⟨(some 16), .mv (.t 1), none⟩,
   ⟨(some 17), .ixS (.t 16) (.c (.i .i64 0)), none⟩,
   ⟨(some 18), .cvI .i32 (.t 17), none⟩,
   ⟨(some 5), .mv (.t 18), none⟩])
  (.seq (.seq (.reg [⟨(some 19), .mv (.t 5), none⟩,
   ⟨(some 20), .bin .geq (.t 19) (.c (.i .i32 128)), none⟩])
  (.cond (.t 20)
   (.reg [⟨(some 5), .mv (.c (.i .i32 65533)), none⟩])
   .skip))
  (.seq (.reg [⟨(some 21), .mv (.t 0), none⟩,
   ⟨(some 22), .mv (.t 5), none⟩,
   ⟨(some 23), .call Bu [(.t 21), (.t 22)], none⟩,
   ⟨(some 4), .mv (.t 23), none⟩])
  .ret)))
  .skip))
 (.seq (.seq (.reg [⟨(some 24), .mv (.t 0), none⟩,
  ⟨(some 25), .len 0 (.t 24), none⟩,
  ⟨(some 26), .call Bc [(.t 25)], none⟩])
 (.cond (.t 26)
  (.seq (.reg [⟨(some 28), .mv (.t 1), none⟩,
   ⟨(some 29), .call CM [(.t 28)], none⟩,
   ⟨(some 27), .mv (.t 29), none⟩,
   ⟨(some 30), .ext (.t 27) 0, none⟩,
   ⟨(some 31), .ext (.t 27) 1, none⟩,
   ⟨(some 6), .alloc 118 Z256, none⟩,
   ⟨none, .st 256 (.t 6) (.t 30), none⟩,
   ⟨(some 7), .mv (.t 31), none⟩])
  (.seq (.reg [⟨(some 32), .mv (.t 7), none⟩])
  (.cond (.t 32)
   (.seq (.seq (.reg [⟨(some 8), .mv (.c (.i .i64 0)), none⟩])
   (.blk 0 (.loop (.seq (.seq (.reg [⟨(some 33), .mv (.t 8), none⟩,
       ⟨(some 34), .mv (.t 0), none⟩,
       ⟨(some 35), .len 0 (.t 34), none⟩,
       ⟨(some 36), .bin .lss (.t 33) (.t 35), none⟩])
    (.cond (.t 36)
     .skip
     (.exit 0)))
    (.seq (.blk 1 (.seq (.reg [⟨(some 39), .mv (.t 0), none⟩,
       ⟨(some 40), .mv (.t 8), none⟩,
       ⟨(some 41), .ixS (.t 39) (.t 40), none⟩,
       ⟨(some 42), .call Bd [(.t 6), (.t 41)], none⟩])
     (.cond (.t 42)
      (.seq (.reg [⟨(some 43), .mv (.t 8), none⟩,
       ⟨(some 4), .mv (.t 43), none⟩])
      .ret)
      .skip)))
    (.reg [⟨(some 37), .mv (.t 8), none⟩,
     ⟨(some 38), .bin .add (.t 37) (.c (.i .i64 1)), none⟩,
     ⟨(some 8), .mv (.t 38), none⟩]))))))
   (.seq (.reg [⟨(some 4), .mv (.c (.i .i64 (-1))), none⟩])
   .ret))
   .skip)))
  .skip))
 (.seq (.seq (.reg [⟨(some 44), .mv (.t 0), none⟩,
  ⟨(some 45), .siter (.t 44), none⟩])
 (.blk 2 (.loop (.seq (.reg [⟨(some 46), .snext (.t 45), none⟩,
     ⟨(some 47), .ext (.t 46) 0, none⟩])
  (.seq (.cond (.t 47)
   .skip
   (.exit 2))
  (.blk 3 (.seq (.reg [⟨(some 48), .ext (.t 46) 1, none⟩,
     ⟨(some 49), .ext (.t 46) 2, none⟩,
     ⟨(some 9), .mv (.t 48), none⟩,
     ⟨(some 10), .mv (.t 49), none⟩])
   (.seq (.reg [⟨(some 50), .mv (.t 1), none⟩,
    ⟨(some 51), .mv (.t 10), none⟩,
    ⟨(some 52), .call Bu [(.t 50), (.t 51)], none⟩,
    ⟨(some 53), .bin .geq (.t 52) (.c (.i .i64 0)), none⟩])
   (.cond (.t 53)
    (.seq (.reg [⟨(some 54), .mv (.t 9), none⟩,
     ⟨(some 4), .mv (.t 54), none⟩])
    .ret)
    .skip)))))))))
 (.seq (.reg [⟨(some 4), .mv (.c (.i .i64 (-1))), none⟩])
 .ret)))))) := by rfl
theorem Vc : BT.cout = [.agg (List.replicate 256 .id), .id] := by rfl
theorem TO (n : Nat) : CS (.i .u8 (n : Int)) = some n := AI _ n
theorem mk_ok (s : St) (hw : Wf s) : (lim prog).call CM [.s K3] s = some (.tup [.agg (bs B3), .b true], s) := by
 refine fn_W GW rfl rfl ?_
 rw [Va, Vc]
 have hnb : s.enter.nb = s.nb := rfl
 have hwx : ∀ B, Wf (s.enter.new (.cells 118 (bs B))) := fun B => hw.enter.new _
 have hset : ∀ B B', (s.enter.new (.cells 118 (bs B))).setBox s.nb (.cells 118 (bs B')) = s.enter.new (.cells 118 (bs B')) := fun B B' => KY s.enter _ _
 have hb : ∀ B, (s.enter.new (.cells 118 (bs B))).box? s.nb = some (.cells 118 (bs B)) := fun B => EN s.enter _
 have s1 := Rm (i := 47) (hb F256) (by rw [len0]; decide)
 have s2 := Rm (i := 0) (hb (F256.set 47 true)) (by rw [len1']; decide)
 have s3 := Rm (i := 10) (hb ((F256.set 47 true).set 0 true)) (by rw [len2']; decide)
 rw [hset] at s1 s2 s3
 have la := bs_ld (hb B3) Rn
 have st := bs_st (hb B3) Rn Rn
 rw [hset] at st
 have hres : BT.res = [(2, some (true, 256)), (3, none)] := rfl
 have hpl := Rj (s.enter.new (.cells 118 (bs B3))) B3
 have hfl := Rk (s.enter.new (.cells 118 (bs B3))) B3
 have ov : Over s (s.enter.new (.cells 118 (bs B3))) := (Over.enter s).new _
 rw [hres]
 simp only [go_sem, Ap, AK, AJ, AL, Al, KB_n, KB_x, Nat.reduceBEq, Nat.reduceAdd, Nat.reduceLT, Nat.reduceLeDiff, Nat.reduceEqDiff, reduceIte, Int.reduceEq, reduceCtorEq, hnb]
 refine Ba (fun n e q => e.get 0 = .s K3 ∧ e.get 2 = .p s.nb 0 ∧ ∃ p : Nat, p + n = 3 ∧ e.get 4 = .i .i64 p ∧ q = s.enter.new (.cells 118 (bs ((K3.take p).foldl (fun B c => B.set c true) F256)))) ?_ 3 _ _ ?_
 · rintro n e q ⟨g0, g2, p, hp, g4, rfl⟩
   have : p = 0 ∨ p = 1 ∨ p = 2 ∨ p = 3 := by omega
   have hl : List.length K3 = 3 := rfl
   rcases this with rfl | rfl | rfl | rfl
   · have c1 : ((0 : Int) < 3) = True := by simp
     have c2 : ((128 : Int) ≤ 47) = False := by simp
     have hn : CS (.i .u8 47) = some 47 := rfl
     have hw1 : IntKind.i64.wrap (0 + 1) = 1 := rfl
     have hx : ((K3.take 0).foldl (fun B c => B.set c true) F256) = F256 := rfl
     have hc0 : ((0 : Nat) : Int) = 0 := rfl
     rw [hx]
     simp only [go_sem, Ap, AK, AJ, AL, Al, KB_n, KB_x, Nat.reduceBEq, Nat.reduceAdd, Nat.reduceLT, Nat.reduceLeDiff, Nat.reduceEqDiff, reduceIte, Int.reduceEq, reduceCtorEq, g0, g2, g4, List.length_cons, List.length_nil, Ax, Int.cast_ofNat_Int, hc0, c1, NQ, c2, hn, Nat.mul_one, Nat.zero_add, s1, hw1]
     exact ⟨n - 1, by omega, 1, by omega, rfl, rfl⟩
   · have c1 : ((1 : Int) < 3) = True := by simp
     have c2 : ((128 : Int) ≤ 0) = False := by simp
     have hn : CS (.i .u8 0) = some 0 := rfl
     have hx : ((K3.take 1).foldl (fun B c => B.set c true) F256) = F256.set 47 true := rfl
     have hc0 : ((1 : Nat) : Int) = 1 := rfl
     rw [hx]
     simp only [go_sem, Ap, AK, AJ, AL, Al, KB_n, KB_x, Nat.reduceBEq, Nat.reduceAdd, Nat.reduceLT, Nat.reduceLeDiff, Nat.reduceEqDiff, reduceIte, Int.reduceEq, reduceCtorEq, g0, g2, g4, List.length_cons, List.length_nil, Ax, Int.cast_ofNat_Int, hc0, c1, T3, c2, hn, Nat.mul_one, Nat.zero_add, s2, w4]
     exact ⟨n - 1, by omega, 2, by omega, rfl, rfl⟩
   · have c1 : ((2 : Int) < 3) = True := by simp
     have c2 : ((128 : Int) ≤ 10) = False := by simp
     have hn : CS (.i .u8 10) = some 10 := rfl
     have hx : ((K3.take 2).foldl (fun B c => B.set c true) F256) = (F256.set 47 true).set 0 true := rfl
     have hc0 : ((2 : Nat) : Int) = 2 := rfl
     rw [hx]
     simp only [go_sem, Ap, AK, AJ, AL, Al, KB_n, KB_x, Nat.reduceBEq, Nat.reduceAdd, Nat.reduceLT, Nat.reduceLeDiff, Nat.reduceEqDiff, reduceIte, Int.reduceEq, reduceCtorEq, g0, g2, g4, List.length_cons, List.length_nil, Ax, Int.cast_ofNat_Int, hc0, c1, T4, c2, hn, Nat.mul_one, Nat.zero_add, s3, w5]
     exact ⟨n - 1, by omega, 3, by omega, rfl, rfl⟩
   · have c1 : ((3 : Int) < 3) = False := by simp
     have hx : ((K3.take 3).foldl (fun B c => B.set c true) F256) = B3 := rfl
     have hc0 : ((3 : Nat) : Int) = 3 := rfl
     rw [hx]
     simp only [go_sem, Ap, AK, AJ, AL, Al, KB_n, KB_x, Nat.reduceBEq, Nat.reduceAdd, Nat.reduceLT, Nat.reduceLeDiff, Nat.reduceEqDiff, reduceIte, Int.reduceEq, reduceCtorEq, g0, g2, g4, List.length_cons, List.length_nil, Ax, Int.cast_ofNat_Int, hc0, c1, la, hpl, st, hfl, frz]
     refine AO ov ?_ ?_
     · simp [Bo, AV.refs, AV.refs.go, OD]
     · simp only [wkZ]
       have e1 : wk (.agg (List.replicate 256 .id)) (.agg (bs B3)) = .agg (bs B3) := by
        rw [wk, bs_wk]
       rw [e1]
       rfl
 · simp only [go_sem, Ap, AK, AJ, AL, Al, KB_n, KB_x, Nat.reduceBEq, Nat.reduceAdd, Nat.reduceLT, Nat.reduceLeDiff, Nat.reduceEqDiff, reduceIte, Int.reduceEq, reduceCtorEq]
   exact ⟨rfl, 0, by omega, rfl, rfl⟩
theorem OE {s : St} {id T : Nat} {B : List Bool} (h : s.box? id = some (.cells T (bs B))) {c : Nat} (hc : c < 256) {b : Bool} (hb : B[c]? = some b) : (lim prog).call Bd [.p id 0, .i .u8 (c : Int)] s = some (.b b, s) := by
 refine fn_W E1 rfl rfl ?_
 have hl : ldA s.enter false 1 (.p id c) = some (.b b) := bs_ld1 (s := s.enter) h hb
 have hlt : (c < 256) = True := by simp [hc]
 simp only [Bg, go_sem, Ap, AK, AJ, AL, Al, KB_n, KB_x, Nat.reduceBEq, Nat.reduceAdd, Nat.reduceLT, Nat.reduceLeDiff, Nat.reduceEqDiff, reduceIte, Int.reduceEq, reduceCtorEq, TO, hlt, Nat.mul_one, Nat.zero_add, hl]
 exact AO (Over.enter s) rfl rfl
end Go.Proofs.YtbfgoopcnkeblaaGreat

/-
  Names.
-/
set_option maxRecDepth 100000
namespace Go.Proofs.YtbfgoopcnkeblaaGreat
open Go.Proofs.YtbfgoopcnkeblaaGreat.Am
theorem TP (s : ByteArray) (pos : Nat) (h : pos < s.size) (ha : 128 ≤ (s.get! (pos + 0)).toNat) : pos + (Utf8.decode s pos).2 ≤ s.size ∧ ∀ k, k < (Utf8.decode s pos).2 → 128 ≤ (s.get! (pos + k)).toNat := by
 have hn : ¬ (s.get! (pos + 0)).toNat < 128 := by omega
 simp only [Utf8.decode, hn, if_false]
 split
 · rename_i h1
   simp only [Bool.and_eq_true, beq_iff_eq, decide_eq_true_eq] at h1
   split
   · refine ⟨by simp only; omega, fun k hk => ?_⟩
     have : k = 0 ∨ k = 1 := by simp only at hk; omega
     rcases this with rfl | rfl <;> omega
   · refine ⟨by simp only; omega, fun k hk => ?_⟩
     have : k = 0 := by simp only at hk; omega
     subst this; omega
 · split
   · rename_i h1
     simp only [Bool.and_eq_true, beq_iff_eq, decide_eq_true_eq] at h1
     split
     · refine ⟨by simp only; omega, fun k hk => ?_⟩
       have : k = 0 ∨ k = 1 ∨ k = 2 := by simp only at hk; omega
       rcases this with rfl | rfl | rfl <;> omega
     · refine ⟨by simp only; omega, fun k hk => ?_⟩
       have : k = 0 := by simp only at hk; omega
       subst this; omega
   · split
     · rename_i h1
       simp only [Bool.and_eq_true, beq_iff_eq, decide_eq_true_eq] at h1
       split
       · refine ⟨by simp only; omega, fun k hk => ?_⟩
         have : k = 0 ∨ k = 1 ∨ k = 2 ∨ k = 3 := by simp only at hk; omega
         rcases this with rfl | rfl | rfl | rfl <;> omega
       · refine ⟨by simp only; omega, fun k hk => ?_⟩
         have : k = 0 := by simp only at hk; omega
         subst this; omega
     · refine ⟨by simp only; omega, fun k hk => ?_⟩
       have : k = 0 := by simp only at hk; omega
       subst this; omega
theorem bytes_get {l : List Nat} (hl : ∀ n ∈ l, n < 256) {i : Nat} (h : i < l.length) : ((⟨(l.map UInt8.ofNat).toArray⟩ : ByteArray).get! i).toNat = l[i] := by
 have h1 : i < (l.map UInt8.ofNat).toArray.size := by simpa using h
 have : (⟨(l.map UInt8.ofNat).toArray⟩ : ByteArray).get! i = UInt8.ofNat l[i] := by
  show (l.map UInt8.ofNat).toArray[i]! = _
  rw [getElem!_pos _ i h1]
  simp
 rw [this, u8N (hl _ (List.getElem_mem h))]
theorem bytes_size (l : List Nat) : (⟨(l.map UInt8.ofNat).toArray⟩ : ByteArray).size = l.length := by
 show (l.map UInt8.ofNat).toArray.size = _
 simp
theorem TQ {l : List Nat} (hl : ∀ n ∈ l, n < 256) {pos : Nat} (h : pos < l.length) (hc : 128 ≤ l[pos]) :
    ∃ r w, Utf8.decode ⟨(l.map UInt8.ofNat).toArray⟩ pos = (r, w) ∧ 128 ≤ r ∧ r ≤ 2147483647 ∧ 1 ≤ w ∧ pos + w ≤ l.length ∧ ∀ k (hk : k < l.length), pos ≤ k → k < pos + w → 128 ≤ l[k] := by
 have hs := bytes_size l
 have hg := bytes_get hl h
 have hps : pos < (⟨(l.map UInt8.ofNat).toArray⟩ : ByteArray).size := by rw [hs]; exact h
 have hge := get_at (⟨(l.map UInt8.ofNat).toArray⟩ : ByteArray) pos hps
 have ha : 128 ≤ ((⟨(l.map UInt8.ofNat).toArray⟩ : ByteArray).get! (pos + 0)).toNat := by rw [Nat.add_zero, hg]; exact hc
 have h1 := decode_high (⟨(l.map UInt8.ofNat).toArray⟩ : ByteArray) pos hps (by rw [← hge]; exact ha)
 have h2 := decode_le (⟨(l.map UInt8.ofNat).toArray⟩ : ByteArray) pos
 have h3 := TP (⟨(l.map UInt8.ofNat).toArray⟩ : ByteArray) pos hps ha
 rw [hs] at h3
 obtain ⟨⟨r, w⟩, hrw⟩ : ∃ x, Utf8.decode (⟨(l.map UInt8.ofNat).toArray⟩ : ByteArray) pos = x := ⟨_, rfl⟩
 rw [hrw] at h1 h2 h3
 simp only at h1 h2 h3
 refine ⟨r, w, hrw, h1.1, h2, h1.2, h3.1, fun k hk h4 h5 => ?_⟩
 have h6 := h3.2 (k - pos) (by omega)
 rw [show pos + (k - pos) = k by omega, bytes_get hl hk] at h6
 exact h6
def anyK (l : List Nat) : Bool := l.any fun c => decide (c ∈ K3)
theorem Ro {r : Int} (h : 128 ≤ r) : NS r = -1 := by unfold NS; rw [if_neg (by omega)]
theorem Lk (c : Nat) (h : c < 128) : (0 ≤ NS (c : Int)) ↔ c ∈ K3 := by
 unfold NS
 rw [if_pos (by omega), Int.toNat_natCast]
 have := PL (c := c) (l := K3) (n := 0)
 constructor
 · intro h1
   by_cases h2 : c ∈ K3
   · exact h2
   · exact absurd (this.2 h2) (by omega)
 · intro h1
   by_cases h2 : idxB c 0 K3 < 0
   · exact absurd h1 (this.1 h2)
   · omega
theorem OF {l : List Nat} {i : Nat} (h : i < l.length) (hm : l[i] ∈ K3) : anyK l = true := by
 unfold anyK
 rw [List.any_eq_true]
 exact ⟨_, List.getElem_mem h, by simpa using hm⟩
theorem JI {l : List Nat} (h : ∀ i (hi : i < l.length), l[i] ∉ K3) : anyK l = false := by
 unfold anyK
 rw [List.any_eq_false]
 intro x hx
 obtain ⟨i, hi, rfl⟩ := List.mem_iff_getElem.1 hx
 simpa using h i hi
theorem JY (n : Int) (s : St) : (lim prog).call Bc [.i .i64 n] s = some (.b (decide (8 < n)), s) := by
 refine fn_W E0 rfl rfl ?_
 simp only [Bf, go_sem, Ap, AK, AJ, AL, Al, KB_n, KB_x, Nat.reduceBEq, Nat.reduceAdd, Nat.reduceLT, Nat.reduceLeDiff, Nat.reduceEqDiff, reduceIte, Int.reduceEq, reduceCtorEq]
 exact AO (Over.enter s) rfl rfl
def IAP (l : List Nat) (s : St) (r : AV) (s' : St) : Prop := s' = s ∧ ∃ z : Int, r = .i .i64 z ∧ (decide (0 ≤ z)) = anyK l
theorem KH_i {s s2 : St} {l : List Nat} {z : Int} (hov : Over s s2) (h : decide (0 ≤ z) = anyK l) : KH s [CT.id] (IAP l s) (some ([.i .i64 z], s2)) := by
 refine ⟨_, _, rfl, ?_⟩
 show IAP l s (.i .i64 z) (leave s s2 (.i .i64 z))
 rw [hov.leave rfl]
 exact ⟨rfl, z, rfl, h⟩
theorem OG (l : List Nat) (hl : Txt l) (s : St) (hw : Wf s) : ∃ r s', (lim prog).call Dv [.s l, .s K3] s = some (r, s') ∧ IAP l s r s' := by
 refine fn_G (Post := IAP l s) Ii rfl rfl ?_
 have hlen := hl.len
 have k1 : ((K3 : List Nat) = []) = False := by simp
 have k2 : ((3 : Int) = 1) = False := by simp
 have hkl : List.length K3 = 3 := rfl
 have ia_cin : Be.cin = [.id, .id] := rfl
 have ia_res : Be.res = [(4, none)] := rfl
 have ia_cout : Be.cout = [.id] := rfl
 rw [Vb, ia_cin, ia_res, ia_cout]
 by_cases h8 : (8 : Int) < (l.length : Int)
 · have hmk := mk_ok s.enter hw.enter
   have hb0 : (s.enter.new (.cells 118 Z256)).box? s.enter.nb = some (.cells 118 (bs F256)) := EN s.enter _
   have st := bs_st hb0 Rn len0
   rw [KY] at st
   obtain ⟨s1, hs1⟩ : ∃ s1, s.enter.new (.cells 118 (bs B3)) = s1 := ⟨_, rfl⟩
   have hb1 : s1.box? s.enter.nb = some (.cells 118 (bs B3)) := by rw [← hs1]; exact EN s.enter _
   have ov1 : Over s s1 := by rw [← hs1]; exact (Over.enter s).new _
   rw [hs1] at st
   have hcells : (AV.agg (bs B3)).cells.length = 256 := by show (bs B3).length = 256; simpa using Rn
   simp only [go_sem, Ap, AK, AJ, AL, Al, KB_n, KB_x, Nat.reduceBEq, Nat.reduceAdd, Nat.reduceLT, Nat.reduceLeDiff, Nat.reduceEqDiff, reduceIte, Int.reduceEq, reduceCtorEq, Ax, hkl, Int.cast_ofNat_Int, k1, k2, JY, h8, hmk, st]
   refine Ba (fun n e q => ∃ i : Nat, i + n = l.length ∧ q = s1 ∧ e.get 0 = .s l ∧ e.get 6 = .p s.enter.nb 0 ∧ e.get 8 = .i .i64 i ∧ ∀ (j : Nat) (hj : j < l.length), j < i → l[j] ∉ K3) ?_ l.length _ _ ?_
   · rintro n e q ⟨i, hi, rfl, g0, g6, g8, hno⟩
     simp only [go_sem, Ap, AK, AJ, AL, Al, KB_n, KB_x, Nat.reduceBEq, Nat.reduceAdd, Nat.reduceLT, Nat.reduceLeDiff, Nat.reduceEqDiff, reduceIte, Int.reduceEq, reduceCtorEq, g0, g8, Ax]
     refine PB (fun hlt => ?_) (fun hge => ?_)
     · have hlt : i < l.length := by omega
       have hget : l[i]? = some l[i] := List.getElem?_eq_getElem hlt
       have h256 := hl.lt l[i] (List.getElem_mem hlt)
       have hc := OE hb1 h256 (b3_get h256)
       simp only [go_sem, Ap, AK, AJ, AL, Al, KB_n, KB_x, Nat.reduceBEq, Nat.reduceAdd, Nat.reduceLT, Nat.reduceLeDiff, Nat.reduceEqDiff, reduceIte, Int.reduceEq, reduceCtorEq, g0, g6, g8, G7, hget, Ax, hc]
       refine PB (fun hm => ?_) (fun hm => ?_)
       · exact KH_i ov1 (by rw [OF hlt hm]; simp)
       · simp only [go_sem, Ap, AK, AJ, AL, Al, KB_n, KB_x, Nat.reduceBEq, Nat.reduceAdd, Nat.reduceLT, Nat.reduceLeDiff, Nat.reduceEqDiff, reduceIte, Int.reduceEq, reduceCtorEq, Af (show i + 1 < 2 ^ 63 by omega), g0, g6, g8]
         refine ⟨n - 1, by omega, i + 1, by omega, rfl, fun j hj hji => ?_⟩
         by_cases hje : j = i
         · subst hje; exact hm
         · exact hno j hj (by omega)
     · exact KH_i ov1 (by rw [JI fun j hj => hno j hj (by omega)]; decide)
   · simp only [go_sem, Ap, AK, AJ, AL, Al, KB_n, KB_x, Nat.reduceBEq, Nat.reduceAdd, Nat.reduceLT, Nat.reduceLeDiff, Nat.reduceEqDiff, reduceIte, Int.reduceEq, reduceCtorEq]
     exact ⟨0, by omega, rfl, fun j hj h => by omega⟩
 · have hsi : ∀ p p', (s.enter.new (.siter l p)).setBox s.enter.nb (.siter l p') = s.enter.new (.siter l p') := fun p p' => KY _ _ _
   simp only [go_sem, Ap, AK, AJ, AL, Al, KB_n, KB_x, Nat.reduceBEq, Nat.reduceAdd, Nat.reduceLT, Nat.reduceLeDiff, Nat.reduceEqDiff, reduceIte, Int.reduceEq, reduceCtorEq, Ax, hkl, Int.cast_ofNat_Int, k1, k2, JY, h8]
   refine Ba (fun n e q => ∃ i : Nat, i + n = l.length ∧ q = s.enter.new (.siter l i) ∧ e.get 1 = .s K3 ∧ e.get 45 = .p s.enter.nb 0 ∧ ∀ (j : Nat) (hj : j < l.length), j < i → l[j] ∉ K3) ?_ l.length _ _ ?_
   · rintro n e q ⟨i, hi, rfl, g1, g45, hno⟩
     have ov1 : ∀ p, Over s (s.enter.new (.siter l p)) := fun p => (Over.enter s).new _
     by_cases hlt : i < l.length
     · have hget : l[i]? = some l[i] := List.getElem?_eq_getElem hlt
       by_cases h128 : l[i] < 128
       · have h128' : (l[i] < 128) = True := by simp [h128]
         have hr := JX (l[i] : Int) (by omega) (by omega)
         simp only [go_sem, Ap, AK, AJ, AL, Al, KB_n, KB_x, Nat.reduceBEq, Nat.reduceAdd, Nat.reduceLT, Nat.reduceLeDiff, Nat.reduceEqDiff, reduceIte, Int.reduceEq, reduceCtorEq, g1, g45, hget, h128', Ax, hsi, hr]
         refine PB (fun hm => ?_) (fun hm => ?_)
         · exact KH_i (ov1 _) (by rw [OF hlt ((Lk _ h128).1 hm)]; simp)
         · trace_state
           refine ⟨n - 1, by omega, i + 1, by omega, rfl, fun j hj hji => ?_⟩
           by_cases hje : j = i
           · subst hje; exact fun hh => hm ((Lk _ h128).2 hh)
           · exact hno j hj (by omega)
       · have h128' : (l[i] < 128) = False := by simp [h128]
         obtain ⟨r, w, e1, e2, e3, e4, e5, e6⟩ := TQ hl.lt hlt (by omega)
         have hr := JX (r : Int) (by omega) (by omega)
         rw [Ro (by omega)] at hr
         have hm1 : ((0 : Int) ≤ -1) = False := by simp
         simp only [go_sem, Ap, AK, AJ, AL, Al, KB_n, KB_x, Nat.reduceBEq, Nat.reduceAdd, Nat.reduceLT, Nat.reduceLeDiff, Nat.reduceEqDiff, reduceIte, Int.reduceEq, reduceCtorEq, g1, g45, hget, h128', Ax, hsi, e1, hr, hm1]
         refine ⟨n - w, by omega, i + w, by omega, rfl, fun j hj hji => ?_⟩
         by_cases hje : j < i
         · exact hno j hj hje
         · have := e6 j hj (by omega) hji
           simp only [List.mem_cons, List.not_mem_nil, or_false]
           omega
     · have hget : l[i]? = none := List.getElem?_eq_none (by omega)
       simp only [go_sem, Ap, AK, AJ, AL, Al, KB_n, KB_x, Nat.reduceBEq, Nat.reduceAdd, Nat.reduceLT, Nat.reduceLeDiff, Nat.reduceEqDiff, reduceIte, Int.reduceEq, reduceCtorEq, g1, g45, hget]
       exact KH_i (ov1 _) (by rw [JI fun j hj => hno j hj (by omega)]; decide)
   · simp only [go_sem, Ap, AK, AJ, AL, Al, KB_n, KB_x, Nat.reduceBEq, Nat.reduceAdd, Nat.reduceLT, Nat.reduceLeDiff, Nat.reduceEqDiff, reduceIte, Int.reduceEq, reduceCtorEq]
     exact ⟨0, by omega, rfl, fun j hj h => by omega⟩
theorem LG (l : List Nat) (hl : Txt l) (s : St) (hw : Wf s) : (lim prog).call DJ [.s l, .s K3] s = some (.b (anyK l), s) := by
 refine fn_W Gz rfl rfl ?_
 obtain ⟨r, s', h, rfl, z, rfl, hz⟩ := OG l hl s.enter hw.enter
 simp only [Cb, go_sem, Ap, AK, AJ, AL, Al, KB_n, KB_x, Nat.reduceBEq, Nat.reduceAdd, Nat.reduceLT, Nat.reduceLeDiff, Nat.reduceEqDiff, reduceIte, Int.reduceEq, reduceCtorEq, h]
 exact AO (Over.enter s) rfl (by rw [hz]; rfl)
def Db (l : List Nat) : Bool := decide (l ≠ []) && (decide (l.length ≤ 64) && (decide (l ≠ [46]) && (decide (l ≠ [46, 46]) && !anyK l)))
theorem OH (l : List Nat) (hl : Txt l) (s : St) (hw : Wf s) : (lim prog).call Ey [.s l] s = some (.b (Db l), s) := by
 refine fn_W N5 rfl rfl ?_
 have hc := LG l hl s.enter hw.enter
 have hk : ∀ b, b = Db l → KR s [CT.id] (.b (Db l)) (some ([.b b], s.enter)) := fun b hb => AO (Over.enter s) rfl (by rw [hb]; rfl)
 have h64i : ∀ h : l.length ≤ 64, (((l.length : Nat) : Int) ≤ 64) = True := fun h => by simp; omega
 by_cases h1 : l = []
 · have h1' : (l ≠ []) = False := by simp [h1]
   simp only [DL, go_sem, Ap, AK, AJ, AL, Al, KB_n, KB_x, Nat.reduceBEq, Nat.reduceAdd, Nat.reduceLT, Nat.reduceLeDiff, Nat.reduceEqDiff, reduceIte, Int.reduceEq, reduceCtorEq, h1']
   exact hk _ (by simp [Db, h1])
 · have h1' : (l ≠ []) = True := by simp [h1]
   by_cases h2 : l.length ≤ 64
   · have h2' := h64i h2
     by_cases h3 : l = [46]
     · have h3' : (l ≠ [46]) = False := by simp [h3]
       simp only [DL, go_sem, Ap, AK, AJ, AL, Al, KB_n, KB_x, Nat.reduceBEq, Nat.reduceAdd, Nat.reduceLT, Nat.reduceLeDiff, Nat.reduceEqDiff, reduceIte, Int.reduceEq, reduceCtorEq, Ax, h1', h2', h3']
       exact hk _ (by simp [Db, h3])
     · have h3' : (l ≠ [46]) = True := by simp [h3]
       by_cases h4 : l = [46, 46]
       · have h4' : (l ≠ [46, 46]) = False := by simp [h4]
         simp only [DL, go_sem, Ap, AK, AJ, AL, Al, KB_n, KB_x, Nat.reduceBEq, Nat.reduceAdd, Nat.reduceLT, Nat.reduceLeDiff, Nat.reduceEqDiff, reduceIte, Int.reduceEq, reduceCtorEq, Ax, h1', h2', h3', h4']
         exact hk _ (by simp [Db, h4])
       · have h4' : (l ≠ [46, 46]) = True := by simp [h4]
         simp only [DL, go_sem, Ap, AK, AJ, AL, Al, KB_n, KB_x, Nat.reduceBEq, Nat.reduceAdd, Nat.reduceLT, Nat.reduceLeDiff, Nat.reduceEqDiff, reduceIte, Int.reduceEq, reduceCtorEq, Ax, h1', h2', h3', h4', hc]
         exact hk _ (by simp [Db, h1, h2, h3, h4])
   · have h2' : (((l.length : Nat) : Int) ≤ 64) = False := by simp; omega
     simp only [DL, go_sem, Ap, AK, AJ, AL, Al, KB_n, KB_x, Nat.reduceBEq, Nat.reduceAdd, Nat.reduceLT, Nat.reduceLeDiff, Nat.reduceEqDiff, reduceIte, Int.reduceEq, reduceCtorEq, Ax, h1', h2']
     exact hk _ (by simp [Db, h2])
end Go.Proofs.YtbfgoopcnkeblaaGreat

/-
  ftree.Well.
-/
set_option maxRecDepth 100000
namespace Go.Proofs.YtbfgoopcnkeblaaGreat
open Go.Proofs.YtbfgoopcnkeblaaGreat.Am
mutual
def Bi : ND → Bool
 | .mk k t ns ks => if k = 1 ∨ k = 3 then decide (ns = []) && (decide (ks.length = 0) && (decide (t.length ≤ 256) && (!t.contains 0 && (decide (k = 1) || decide (t ≠ []))))) else
   if k = 2 then decide (t = []) && (decide (ns.length = ks.length) && Cu none ns ks) else false
def Cu : Option (List Nat) → List (List Nat) → List ND → Bool
 | _, _, [] => true
 | _, [], _ :: _ => true
 | p, s :: ns, k :: ks => Db s && ((match p with | none => true | some q => ltN q s) && (Bi k && Cu (some s) ns ks))
end
theorem idxB0 : ∀ (t : List Nat) (n : Nat), (decide (idxB 0 n t < 0)) = !t.contains 0
 | [], n => by simp [idxB]
 | a :: t, n => by
   cases h : Nat.beq a 0 with
   | true =>
     have : a = 0 := by simpa using h
     subst this
     simp [idxB]
   | false =>
     have h1 : a ≠ 0 := by intro hh; subst hh; simp at h
     simp only [idxB, h, cond_false, idxB0 t (n + 1)]
     have : (a == 0) = false := by simp [h1]
     simp [List.contains_cons, h1, eq_comm]
theorem Fa (x y : List Nat) : Am.binOp .leq (.s x) (.s y) = some (.b (ltN x y || beqN x y)) := by simp [Am.binOp, Nl]
theorem Fb : ∀ (a b : List Nat), (ltN a b || beqN a b) = !ltN b a
 | [], [] => rfl
 | [], _ :: _ => rfl
 | _ :: _, [] => rfl
 | a :: x, b :: y => by
   have := Fb x y
   simp only [ltN, beqN]
   rcases Nat.lt_trichotomy a b with h | h | h
   · have e1 : Nat.blt a b = true := by rw [Nat.blt_eq]; exact h
     have e2 : Nat.blt b a = false := by rw [Bool.eq_false_iff]; intro hh; rw [Nat.blt_eq] at hh; omega
     have e3 : Nat.beq b a = false := by rw [Bool.eq_false_iff]; intro hh; rw [Nat.beq_eq] at hh; omega
     simp [e1, e2, e3]
   · subst h
     have e1 : Nat.blt a a = false := by rw [Bool.eq_false_iff]; intro hh; rw [Nat.blt_eq] at hh; omega
     simp only [e1, Nat.beq_refl, Bool.true_and, Bool.false_or, this]
   · have e1 : Nat.blt b a = true := by rw [Nat.blt_eq]; exact h
     have e2 : Nat.blt a b = false := by rw [Bool.eq_false_iff]; intro hh; rw [Nat.blt_eq] at hh; omega
     have e3 : Nat.beq a b = false := by rw [Bool.eq_false_iff]; intro hh; rw [Nat.beq_eq] at hh; omega
     simp [e1, e2, e3]
theorem HV : ∀ (p : Option (List Nat)) (ns : List (List Nat)) (ks : List ND) (s : List Nat) (k : ND), ns.length = ks.length →
    Cu p (ns ++ [s]) (ks ++ [k]) = (Cu p ns ks && (Db s && ((match ns.getLast?.or p with | none => true | some q => ltN q s) && Bi k)))
 | p, [], [], s, k, _ => by
   simp only [List.nil_append, Cu, Bool.and_true, Bool.true_and, List.getLast?_nil, Option.none_or]
 | p, a :: ns, b :: ks, s, k, h => by
   simp only [List.length_cons, Nat.add_right_cancel_iff] at h
   simp only [List.cons_append, Cu, HV (some a) ns ks s k h, Bool.and_assoc]
   have : (a :: ns).getLast?.or p = (ns.getLast?.or (some a)) := by
    cases ns with
    | nil => rfl
    | cons c ns =>
      cases hns : (c :: ns).getLast? with
      | none => simp at hns
      | some v => rw [List.getLast?_cons_cons, hns]; rfl
   rw [this]
 | _, [], _ :: _, _, _, h => by simp at h
 | _, _ :: _, [], _, _, h => by simp at h
theorem HW (n : ND) : ∀ (p : Option (List Nat)) (ns : List (List Nat)) (ks : List ND) (i : Nat), Cu p ns ks = true → Cu p (ns.take i) (ks.take i) = true
 | _, _, _, 0, _ => by simp [Cu]
 | _, _, [], i + 1, _ => by simp [Cu]
 | _, [], _ :: _, i + 1, _ => by simp [Cu]
 | p, s :: ns, k :: ks, i + 1, h => by
   simp only [List.take_succ_cons, Cu, Bool.and_eq_true] at h ⊢
   exact ⟨h.1, h.2.1, h.2.2.1, HW n (some s) ns ks i h.2.2.2⟩
end Go.Proofs.YtbfgoopcnkeblaaGreat

/-
  ftree.Well.
-/
set_option maxRecDepth 100000
set_option maxHeartbeats 2000000
namespace Go.Proofs.YtbfgoopcnkeblaaGreat
open Go.Proofs.YtbfgoopcnkeblaaGreat.Am
attribute [local irreducible] W WO WE WQ WD Tr.get Tr.set
inductive ND.Ok : ND → Prop
 | mk {k : Nat} {t : List Nat} {ns : List (List Nat)} {ks : List ND} : k < 256 → Txt t → t.length < 2 ^ 62 → (∀ l ∈ ns, Txt l) → ns.length < 2 ^ 34 → ks.length < 2 ^ 34 → (∀ x ∈ ks, ND.Ok x) → ND.Ok (.mk k t ns ks)
theorem ND.Ok.kind {n : ND} (h : n.Ok) : n.kind < 256 := by cases h; assumption
theorem ND.Ok.text {n : ND} (h : n.Ok) : Txt n.text ∧ n.text.length < 2 ^ 62 := by cases h; exact ⟨by assumption, by assumption⟩
theorem ND.Ok.names {n : ND} (h : n.Ok) : (∀ l ∈ n.names, Txt l) ∧ n.names.length < 2 ^ 34 := by cases h; exact ⟨by assumption, by assumption⟩
theorem ND.Ok.kids {n : ND} (h : n.Ok) : (∀ k ∈ n.kids, k.Ok) ∧ n.kids.length < 2 ^ 34 := by cases h; exact ⟨by assumption, by assumption⟩
theorem Dx (n : ND) : Bi n = if n.kind = 1 ∨ n.kind = 3 then decide (n.names = []) && (decide (n.kids.length = 0) && (decide (n.text.length ≤ 256) && (!n.text.contains 0 && (decide (n.kind = 1) || decide (n.text ≠ []))))) else
    if n.kind = 2 then decide (n.text = []) && (decide (n.names.length = n.kids.length) && Cu none n.names n.kids) else false := by
 cases n with
 | mk k t ns ks => rw [Bi]; rfl
theorem G6 {L : List (List Nat)} {i : Nat} {y : List Nat} (h : L[i]? = some y) : (L.take (i + 1)).getLast? = some y := by
 rw [List.take_add_one, h]
 simp
theorem Rg : ∀ n : ND, n.Ok → ∀ s, Wf s → (lim prog).call Co [.agg n.cells] s = some (.b (Bi n), s) := by
 refine ND.ind fun n ih ho s hw => ?_
 refine fn_W JW rfl rfl ?_
 have H1 := (Hp.begin hw).new (.cells 30 n.cells)
 generalize hq : s.enter.new (.cells 30 n.cells) = q at H1
 generalize hm : s.enter.nb = m at H1
 have l0 := H1.ld 0 (off := 0) (v := .i .u8 (n.kind : Nat)) rfl rfl
 have l1 := H1.ld 0 (off := 1) (v := .s n.text) rfl rfl
 have l2 := H1.ld 0 (off := 2) (v := tx n.names) rfl rfl
 have l3 := H1.ld 0 (off := 3) (v := .ws false 4 (n.kids.map ND.av)) rfl rfl
 have hz0 : wkZ Aw.cin [.agg n.cells] = [.agg n.cells] := by simp [Aw, wkZ, wk, ND.cells]
 rw [hz0, Dx]
 have hbr : ∀ b, KR s [.id] (.b b) (some ([.b b], q)) := fun b => AO H1.over rfl rfl
 have hib := FE n.text 0 (by omega) q
 have hi0 := idxB0 n.text 0
 by_cases c1 : n.kind = 1 ∨ n.kind = 3
 · rw [if_pos c1]
   have hsum : IntKind.i64.wrap ((n.names.length : Int) + (n.kids.length : Int)) = ((n.names.length + n.kids.length : Nat) : Int) := by
    rw [show (n.names.length : Int) + (n.kids.length : Int) = ((n.names.length + n.kids.length : Nat) : Int) by omega]
    exact CA (by have := ho.names.2; have := ho.kids.2; omega)
   have hib : (lim prog).call Bt [AV.s n.text, AV.i IntKind.u8 0] q = some (AV.i IntKind.i64 (idxB 0 0 n.text), q) := hib
   by_cases k1 : n.kind = 1
   · have e1 : ((n.kind : Int) = 1) = True := by simp only [eq_iff_iff, iff_true]; omega
     have e2 : True := trivial
     by_cases d1 : n.names.length + n.kids.length = 0
     · have f1 : (((n.names.length + n.kids.length : Nat) : Int) = 0) = True := by simp only [eq_iff_iff, iff_true]; omega
       have g1 : n.names = [] := List.length_eq_zero_iff.1 (by omega)
       have g2 : n.kids.length = 0 := by omega
       by_cases d2 : n.text.length ≤ 256
       · have f2 : ((n.text.length : Int) ≤ 256) = True := by simp only [eq_iff_iff, iff_true]; omega
         by_cases d3 : idxB 0 0 n.text < 0
         · have f3 : (idxB 0 0 n.text < 0) = True := by simp only [eq_iff_iff, iff_true]; exact d3
           rw [decide_eq_true d3] at hi0
           rw [← hi0, decide_eq_true g1, decide_eq_true g2, decide_eq_true d2, decide_eq_true k1]
           simp only [Aw, go_sem, AD, AA, AC, AB, KB_n, KB_x, Nat.reduceBEq, Nat.reduceAdd, Nat.reduceLT, Nat.reduceLeDiff, Nat.reduceEqDiff, reduceIte, Int.reduceEq, reduceCtorEq, BO, hq, hm, l0, l1, l2, l3, Nat.zero_add, e1, List.length_map, hsum, f1, f2, hib, f3]
           exact hbr _
         · have f3 : (idxB 0 0 n.text < 0) = False := by simp only [eq_iff_iff, iff_false]; exact d3
           rw [decide_eq_false d3] at hi0
           rw [← hi0]
           simp only [Aw, go_sem, AD, AA, AC, AB, KB_n, KB_x, Nat.reduceBEq, Nat.reduceAdd, Nat.reduceLT, Nat.reduceLeDiff, Nat.reduceEqDiff, reduceIte, Int.reduceEq, reduceCtorEq, BO, hq, hm, l0, l1, l2, l3, Nat.zero_add, e1, e2, List.length_map, hsum, f1, f2, hib, f3, Bool.false_and, Bool.and_false]
           exact hbr _
       · have f2 : ((n.text.length : Int) ≤ 256) = False := by simp only [eq_iff_iff, iff_false]; omega
         simp only [Aw, go_sem, AD, AA, AC, AB, KB_n, KB_x, Nat.reduceBEq, Nat.reduceAdd, Nat.reduceLT, Nat.reduceLeDiff, Nat.reduceEqDiff, reduceIte, Int.reduceEq, reduceCtorEq, BO, hq, hm, l0, l1, l2, l3, Nat.zero_add, e1, e2, List.length_map, hsum, f1, f2, decide_eq_false d2, Bool.false_and, Bool.and_false]
         exact hbr _
     · have f1 : (((n.names.length + n.kids.length : Nat) : Int) = 0) = False := by simp only [eq_iff_iff, iff_false]; omega
       have : (decide (n.names = []) && (decide (n.kids.length = 0) && (decide (n.text.length ≤ 256) && (!n.text.contains 0 && (decide (n.kind = 1) || decide (n.text ≠ [])))))) = false := by
        by_cases g1 : n.names = []
        · have g2 : n.kids.length ≠ 0 := by intro h; exact d1 (by rw [g1, h]; rfl)
          simp [g2]
        · simp [g1]
       rw [this]
       simp only [Aw, go_sem, AD, AA, AC, AB, KB_n, KB_x, Nat.reduceBEq, Nat.reduceAdd, Nat.reduceLT, Nat.reduceLeDiff, Nat.reduceEqDiff, reduceIte, Int.reduceEq, reduceCtorEq, BO, hq, hm, l0, l1, l2, l3, Nat.zero_add, e1, e2, List.length_map, hsum, f1]
       exact hbr _
   · have e1 : ((n.kind : Int) = 1) = False := by simp only [eq_iff_iff, iff_false]; omega
     have e2 : ((n.kind : Int) = 3) = True := by simp only [eq_iff_iff, iff_true]; omega
     by_cases d1 : n.names.length + n.kids.length = 0
     · have f1 : (((n.names.length + n.kids.length : Nat) : Int) = 0) = True := by simp only [eq_iff_iff, iff_true]; omega
       have g1 : n.names = [] := List.length_eq_zero_iff.1 (by omega)
       have g2 : n.kids.length = 0 := by omega
       by_cases d2 : n.text.length ≤ 256
       · have f2 : ((n.text.length : Int) ≤ 256) = True := by simp only [eq_iff_iff, iff_true]; omega
         by_cases d3 : idxB 0 0 n.text < 0
         · have f3 : (idxB 0 0 n.text < 0) = True := by simp only [eq_iff_iff, iff_true]; exact d3
           rw [decide_eq_true d3] at hi0
           rw [← hi0, decide_eq_true g1, decide_eq_true g2, decide_eq_true d2, decide_eq_false k1]
           by_cases d4 : n.text = []
           · have f4 : (n.text ≠ []) = False := by simp [d4]
             simp only [Aw, go_sem, AD, AA, AC, AB, KB_n, KB_x, Nat.reduceBEq, Nat.reduceAdd, Nat.reduceLT, Nat.reduceLeDiff, Nat.reduceEqDiff, reduceIte, Int.reduceEq, reduceCtorEq, BO, hq, hm, l0, l1, l2, l3, Nat.zero_add, e1, e2, List.length_map, hsum, f1, f2, hib, f3, f4, Bool.or_false]
             exact hbr _
           · have f4 : (n.text ≠ []) = True := by simp [d4]
             simp only [Aw, go_sem, AD, AA, AC, AB, KB_n, KB_x, Nat.reduceBEq, Nat.reduceAdd, Nat.reduceLT, Nat.reduceLeDiff, Nat.reduceEqDiff, reduceIte, Int.reduceEq, reduceCtorEq, BO, hq, hm, l0, l1, l2, l3, Nat.zero_add, e1, e2, List.length_map, hsum, f1, f2, hib, f3, f4]
             exact hbr _
         · have f3 : (idxB 0 0 n.text < 0) = False := by simp only [eq_iff_iff, iff_false]; exact d3
           rw [decide_eq_false d3] at hi0
           rw [← hi0]
           simp only [Aw, go_sem, AD, AA, AC, AB, KB_n, KB_x, Nat.reduceBEq, Nat.reduceAdd, Nat.reduceLT, Nat.reduceLeDiff, Nat.reduceEqDiff, reduceIte, Int.reduceEq, reduceCtorEq, BO, hq, hm, l0, l1, l2, l3, Nat.zero_add, e1, e2, List.length_map, hsum, f1, f2, hib, f3, Bool.false_and, Bool.and_false]
           exact hbr _
       · have f2 : ((n.text.length : Int) ≤ 256) = False := by simp only [eq_iff_iff, iff_false]; omega
         simp only [Aw, go_sem, AD, AA, AC, AB, KB_n, KB_x, Nat.reduceBEq, Nat.reduceAdd, Nat.reduceLT, Nat.reduceLeDiff, Nat.reduceEqDiff, reduceIte, Int.reduceEq, reduceCtorEq, BO, hq, hm, l0, l1, l2, l3, Nat.zero_add, e1, e2, List.length_map, hsum, f1, f2, decide_eq_false d2, Bool.false_and, Bool.and_false]
         exact hbr _
     · have f1 : (((n.names.length + n.kids.length : Nat) : Int) = 0) = False := by simp only [eq_iff_iff, iff_false]; omega
       have : (decide (n.names = []) && (decide (n.kids.length = 0) && (decide (n.text.length ≤ 256) && (!n.text.contains 0 && (decide (n.kind = 1) || decide (n.text ≠ [])))))) = false := by
        by_cases g1 : n.names = []
        · have g2 : n.kids.length ≠ 0 := by intro h; exact d1 (by rw [g1, h]; rfl)
          simp [g2]
        · simp [g1]
       rw [this]
       simp only [Aw, go_sem, AD, AA, AC, AB, KB_n, KB_x, Nat.reduceBEq, Nat.reduceAdd, Nat.reduceLT, Nat.reduceLeDiff, Nat.reduceEqDiff, reduceIte, Int.reduceEq, reduceCtorEq, BO, hq, hm, l0, l1, l2, l3, Nat.zero_add, e1, e2, List.length_map, hsum, f1]
       exact hbr _
 · rw [if_neg c1]
   by_cases c2 : n.kind = 2
   · rw [if_pos c2]
     have e1 : ((n.kind : Int) = 1) = False := by simp only [eq_iff_iff, iff_false]; omega
     have e2 : ((n.kind : Int) = 3) = False := by simp only [eq_iff_iff, iff_false]; omega
     have e3 : ((n.kind : Int) = 2) = True := by simp only [eq_iff_iff, iff_true]; omega
     by_cases d1 : n.text = []
     · have f1 : (n.text ≠ []) = False := by simp [d1]
       by_cases d2 : n.names.length = n.kids.length
       · have f2 : ((n.names.length : Int) ≠ (n.kids.length : Int)) = False := by simp only [ne_eq, eq_iff_iff, iff_false]; omega
         rw [decide_eq_true d1, decide_eq_true d2]
         simp only [Aw, go_sem, AD, AA, AC, AB, KB_n, KB_x, Nat.reduceBEq, Nat.reduceAdd, Nat.reduceLT, Nat.reduceLeDiff, Nat.reduceEqDiff, reduceIte, Int.reduceEq, reduceCtorEq, BO, hq, hm, l0, l1, l2, l3, Nat.zero_add, e1, e2, e3, List.length_map, f1, f2]
         refine Ba (fun x e q => ∃ i : Nat, i + x = n.names.length ∧ Hp s q s.en [] [(m, .cells 30 n.cells)] ∧ Cu none (n.names.take i) (n.kids.take i) = true ∧ e.get 1 = .p m 0 ∧ e.get 55 = tx n.names ∧ e.get 56 = .i .i64 (n.names.length : Nat) ∧ e.get 57 = .i .i64 (i : Nat)) ?_ n.names.length _ _ ?_
         · rintro x e q' ⟨i, hi, H, hwl, g1, g55, g56, g57⟩
           have l2 := H.ld 0 (off := 2) (v := tx n.names) rfl rfl
           have l3 := H.ld 0 (off := 3) (v := .ws false 4 (n.kids.map ND.av)) rfl rfl
           have hbr : ∀ b, KR s [.id] (.b b) (some ([.b b], q')) := fun b => AO H.over rfl rfl
           have hnl := ho.names.2
           by_cases h : i < n.names.length
           · have h1 : ((i : Int) < (n.names.length : Int)) = True := by simp only [eq_iff_iff, iff_true]; omega
             obtain ⟨y, hy⟩ : ∃ y, n.names[i]? = some y := ⟨_, List.getElem?_eq_getElem h⟩
             obtain ⟨k, hk⟩ : ∃ k, n.kids[i]? = some k := ⟨_, List.getElem?_eq_getElem (by omega)⟩
             have hy2 : (n.names.map AV.s)[i]? = some (.s y) := by rw [List.getElem?_map, hy]; rfl
             have hk2 := JH hk
             have hkm : k ∈ n.kids := List.mem_of_getElem? hk
             have hym : y ∈ n.names := List.mem_of_getElem? hy
             have hnm := OH y (ho.names.1 y hym) q' H.wf
             have hkc := ih k hkm (ho.kids.1 k hkm) q' H.wf
             have hld : ldA q' true 4 (.ep k.cells 0 .shut) = some (.agg k.cells) := rfl
             have hw1 := Af (show i + 1 < 2 ^ 63 by omega)
             have htk : n.names.take (i + 1) = n.names.take i ++ [y] := by rw [List.take_add_one, hy]; rfl
             have htk2 : n.kids.take (i + 1) = n.kids.take i ++ [k] := by rw [List.take_add_one, hk]; rfl
             have hsn := HV none (n.names.take i) (n.kids.take i) y k (by rw [List.length_take, List.length_take]; omega)
             rw [← htk, ← htk2, hwl, Bool.true_and] at hsn
             have hno : Cu none (n.names.take (i + 1)) (n.kids.take (i + 1)) = false → Cu none n.names n.kids = false := fun hf => by
              rw [Bool.eq_false_iff]
              intro ht
              rw [HW n none n.names n.kids (i + 1) ht] at hf
              cases hf
             cases hn1 : Db y with
             | false =>
               rw [hn1] at hnm hsn
               rw [hno hsn]
               simp only [go_sem, AD, AA, AC, AB, KB_n, KB_x, Nat.reduceBEq, Nat.reduceAdd, Nat.reduceLT, Nat.reduceLeDiff, Nat.reduceEqDiff, reduceIte, Int.reduceEq, reduceCtorEq, g1, g55, g56, g57, h1, AI, hy2, BD, Cf, hnm]
               exact hbr _
             | true =>
             rw [hn1] at hnm hsn
             cases i with
             | zero =>
               have h2 : ((0 : Int) < ((0 : Nat) : Int)) = False := by simp
               have hsn : Cu none (n.names.take (0 + 1)) (n.kids.take (0 + 1)) = Bi k := by rw [hsn]; simp
               cases hwk : Bi k with
               | false =>
                 rw [hwk] at hkc hsn
                 rw [hno hsn]
                 simp only [go_sem, AD, AA, AC, AB, KB_n, KB_x, Nat.reduceBEq, Nat.reduceAdd, Nat.reduceLT, Nat.reduceLeDiff, Nat.reduceEqDiff, reduceIte, Int.reduceEq, reduceCtorEq, g1, g55, g56, g57, h1, AI, hy2, BD, Cf, hnm, h2, l3, hk2, hld, BG, hkc, Nat.zero_add]
                 exact hbr _
               | true =>
                 rw [hwk] at hkc hsn
                 simp only [go_sem, AD, AA, AC, AB, KB_n, KB_x, Nat.reduceBEq, Nat.reduceAdd, Nat.reduceLT, Nat.reduceLeDiff, Nat.reduceEqDiff, reduceIte, Int.reduceEq, reduceCtorEq, g1, g55, g56, g57, h1, AI, hy2, BD, Cf, hnm, h2, l3, hk2, hld, BG, hkc, hw1]
                 exact ⟨x - 1, by omega, 0 + 1, by omega, H, hsn, rfl⟩
             | succ i =>
               have h2 : ((0 : Int) < ((i + 1 : Nat) : Int)) = True := by simp only [eq_iff_iff, iff_true]; omega
               obtain ⟨z, hz⟩ : ∃ z, n.names[i]? = some z := ⟨_, List.getElem?_eq_getElem (by omega)⟩
               have hz2 : (n.names.map AV.s)[i]? = some (.s z) := by rw [List.getElem?_map, hz]; rfl
               have hsb : IntKind.i64.wrap (((i + 1 : Nat) : Int) - 1) = (i : Int) := by
                rw [show ((i + 1 : Nat) : Int) - 1 = (i : Int) by omega]; exact CA (by omega)
               rw [G6 hz] at hsn
               have hsn : Cu none (n.names.take (i + 1 + 1)) (n.kids.take (i + 1 + 1)) = (ltN z y && Bi k) := by rw [hsn]; simp
               have hle : (ltN y z || beqN y z) = !ltN z y := Fb y z
               cases hzy : ltN z y with
               | false =>
                 rw [hzy] at hle hsn
                 rw [hno hsn]
                 simp only [go_sem, AD, AA, AC, AB, KB_n, KB_x, Nat.reduceBEq, Nat.reduceAdd, Nat.reduceLT, Nat.reduceLeDiff, Nat.reduceEqDiff, reduceIte, Int.reduceEq, reduceCtorEq, g1, g55, g56, g57, h1, AI, hy2, BD, Cf, hnm, h2, l2, hsb, hz2, Fa, hle, Nat.zero_add]
                 exact hbr _
               | true =>
                 rw [hzy] at hle hsn
                 cases hwk : Bi k with
                 | false =>
                   rw [hwk] at hkc hsn
                   rw [hno hsn]
                   simp only [go_sem, AD, AA, AC, AB, KB_n, KB_x, Nat.reduceBEq, Nat.reduceAdd, Nat.reduceLT, Nat.reduceLeDiff, Nat.reduceEqDiff, reduceIte, Int.reduceEq, reduceCtorEq, g1, g55, g56, g57, h1, AI, hy2, BD, Cf, hnm, h2, l2, hsb, hz2, Fa, hle, l3, hk2, hld, BG, hkc, Nat.zero_add]
                   exact hbr _
                 | true =>
                   rw [hwk] at hkc hsn
                   simp only [go_sem, AD, AA, AC, AB, KB_n, KB_x, Nat.reduceBEq, Nat.reduceAdd, Nat.reduceLT, Nat.reduceLeDiff, Nat.reduceEqDiff, reduceIte, Int.reduceEq, reduceCtorEq, g1, g55, g56, g57, h1, AI, hy2, BD, Cf, hnm, h2, l2, hsb, hz2, Fa, hle, l3, hk2, hld, BG, hkc, hw1, Nat.zero_add]
                   exact ⟨x - 1, by omega, i + 1 + 1, by omega, H, hsn, rfl⟩
           · have h1 : ((i : Int) < (n.names.length : Int)) = False := by simp only [eq_iff_iff, iff_false]; omega
             rw [List.take_of_length_le (by omega), List.take_of_length_le (by omega)] at hwl
             rw [hwl]
             simp only [go_sem, AD, AA, AC, AB, KB_n, KB_x, Nat.reduceBEq, Nat.reduceAdd, Nat.reduceLT, Nat.reduceLeDiff, Nat.reduceEqDiff, reduceIte, Int.reduceEq, reduceCtorEq, g1, g55, g56, g57, h1]
             exact hbr _
         · simp only [go_sem, AD, AA, AC, AB, KB_n, KB_x, Nat.reduceBEq, Nat.reduceAdd, Nat.reduceLT, Nat.reduceLeDiff, Nat.reduceEqDiff, reduceIte, Int.reduceEq, reduceCtorEq]
           exact ⟨0, by omega, H1, by simp [Cu], rfl⟩
       · have f2 : ((n.names.length : Int) ≠ (n.kids.length : Int)) = True := by simp only [ne_eq, eq_iff_iff, iff_true]; omega
         rw [decide_eq_true d1, decide_eq_false d2]
         simp only [Aw, go_sem, AD, AA, AC, AB, KB_n, KB_x, Nat.reduceBEq, Nat.reduceAdd, Nat.reduceLT, Nat.reduceLeDiff, Nat.reduceEqDiff, reduceIte, Int.reduceEq, reduceCtorEq, BO, hq, hm, l0, l1, l2, l3, Nat.zero_add, e1, e2, e3, List.length_map, f1, f2]
         exact hbr _
     · have f1 : (n.text ≠ []) = True := by simp [d1]
       rw [decide_eq_false d1]
       simp only [Aw, go_sem, AD, AA, AC, AB, KB_n, KB_x, Nat.reduceBEq, Nat.reduceAdd, Nat.reduceLT, Nat.reduceLeDiff, Nat.reduceEqDiff, reduceIte, Int.reduceEq, reduceCtorEq, BO, hq, hm, l0, l1, l2, l3, Nat.zero_add, e1, e2, e3, List.length_map, f1]
       exact hbr _
   · rw [if_neg c2]
     have e1 : ((n.kind : Int) = 1) = False := by simp only [eq_iff_iff, iff_false]; omega
     have e2 : ((n.kind : Int) = 3) = False := by simp only [eq_iff_iff, iff_false]; omega
     have e3 : ((n.kind : Int) = 2) = False := by simp only [eq_iff_iff, iff_false]; omega
     simp only [Aw, go_sem, AD, AA, AC, AB, KB_n, KB_x, Nat.reduceBEq, Nat.reduceAdd, Nat.reduceLT, Nat.reduceLeDiff, Nat.reduceEqDiff, reduceIte, Int.reduceEq, reduceCtorEq, BO, hq, hm, l0, Nat.zero_add, e1, e2, e3]
     exact hbr _
end Go.Proofs.YtbfgoopcnkeblaaGreat

/-
  slices.Clone of texts, over a heap.
-/
set_option maxRecDepth 100000
namespace Go.Proofs.YtbfgoopcnkeblaaGreat
open Go.Proofs.YtbfgoopcnkeblaaGreat.Am
theorem RY : (1 ≤ 1) = True := by simp
theorem NK (s : St) : (lim prog).call AZ [tx []] s = some (.ws true 1 [], { s with lo := min s.lo s.nb }) := by
 rw [Fo]
 unfold Gk
 rw [DB]
 have h1 : wkZ AP.cin [tx []] = [.ws false 1 []] := by
  simp [AP, wkZ, wk, wkM]
 have h2 : both AP [.ws false 1 []] = some (.ws true 1 []) := by rfl
 have h3 : Nat.ble [tx []].length AP.ntmps = true := rfl
 have h4 : AP.prim = none := rfl
 simp only [h4, h3, h1, h2]
theorem Ps (x : List Nat) (L : List (List Nat)) (hL : (x :: L).length < 2 ^ 38) (s : St) :
    (lim prog).call AZ [tx (x :: L)] s = some (.sl 1 ((x :: L).map .s) (.tok s.nt 0), { s.newTok (x :: L).length (some 9) with lo := min s.lo s.nb }) := by
 have h1 : wkZ AP.cin [tx (x :: L)] = [tx (x :: L)] := by
  have := (UU (x :: L)).wk
  simp only [AP, wkZ, this]
 obtain ⟨r, s', hc, rfl, rfl⟩ := fn_K (t := 2) (s := s) (args := [tx (x :: L)]) (Post := fun r s' => r = .sl 1 ((x :: L).map .s) (.tok s.nt 0) ∧ s' = { s.newTok (x :: L).length (some 9) with lo := min s.lo s.nb }) DB rfl rfl rfl (by rw [h1]; rfl) (by
  rw [h1]
  have heq : eqS (tx (x :: L)) .nsl = some false := rfl
  have ha : appA s.enter 1 9 (.sl 1 [] .full) (tx (x :: L)) = some (.sl 1 ((x :: L).map .s) (.tok s.nt 0), s.enter.newTok (x :: L).length (some 9)) := by
   simp only [tx, List.map_cons, appA, elems, if_true, List.nil_append, List.length_nil, Nat.zero_add, true_and]
   rw [if_pos (by simpa using hL)]
   simp [St.enter]
  have hal : Aj 1 [] = true := rfl
  simp only [AP, go_sem, Ap, AK, AJ, AL, Al, KB_n, KB_x, Nat.reduceBEq, Nat.reduceAdd, Nat.reduceLT, Nat.reduceLeDiff, Nat.reduceEqDiff, reduceIte, Int.reduceEq, reduceCtorEq, heq, hal, RY, ha, KK_n, KK_r]
  rfl)
 exact hc
theorem S9 {s0 s : St} {n : En} {R : List RA} {B : List (Nat × Box)} (H : Hp s0 s n R B) (L : List (List Nat)) (hL : L.length < 2 ^ 38) :
    ∃ r s', (lim prog).call AZ [tx L] s = some (r, s') ∧ Hp s0 s' n (⟨1, 9, r, L.map .s, true⟩ :: R) B ∧ s'.nb = s.nb := by
 have hlo := H.lo
 have h1 := H.over.lo
 have h2 := H.over.nb
 cases L with
 | nil =>
   refine ⟨_, _, NK s, ?_, rfl⟩
   exact (H.setLo (m := min s.lo s.nb) (by omega) (by omega)).addFull 1 9 true .ws
 | cons x L =>
   refine ⟨_, _, Ps x L hL s, ?_, rfl⟩
   have := H.newTok 1 9 ((x :: L).map .s)
   rw [List.length_map] at this
   exact this.setLo (m := min s.lo s.nb) (by omega) (by omega)
theorem RZ {s0 s : St} {n : En} {R : List RA} {B : List (Nat × Box)} (H : Hp s0 s n R B) (L : List (List Nat)) (hL : L.length < 2 ^ 38) :
    ∃ r s1 a s', (lim prog).call AZ [tx L] s = some (r, s1) ∧ Nn false s1 r = some (a, s') ∧ Dp 1 a (L.map .s) ∧ Hp s0 s' n R B ∧ s'.nb = s.nb := by
 obtain ⟨r, s1, h1, H1, e1⟩ := S9 H L hL
 obtain ⟨a, s', h2, h3, H2, e2⟩ := H1.pub 0 rfl
 refine ⟨r, s1, a, s', h1, Ss h2 h3, h3, ?_, by omega⟩
 exact H2.dropR
end Go.Proofs.YtbfgoopcnkeblaaGreat

/-
  ftree.May, own, slices.BinarySearch.
-/
set_option maxRecDepth 100000
set_option maxHeartbeats 2000000
namespace Go.Proofs.YtbfgoopcnkeblaaGreat
open Go.Proofs.YtbfgoopcnkeblaaGreat.Am
attribute [local irreducible] W WO WE WQ WD Tr.get Tr.set
theorem PJ (l : List ND) : AV.refs.go (l.map ND.av) = false := by
 induction l with
 | nil => rfl
 | cons a l il => simp only [List.map_cons, AV.refs.go, Rf, il, Bool.or_self]
theorem le14 : (1 ≤ 4) = True := by simp
theorem Tz (c : CT) (l : List ND) (hc : ∀ k ∈ l, wk c k.av = k.av) : wkM c (l.map ND.av) = l.map ND.av := by
 induction l with
 | nil => rfl
 | cons a l ih => simp only [List.map_cons, wkM, hc a (by simp), ih fun k hk => hc k (by simp [hk])]
end Go.Proofs.YtbfgoopcnkeblaaGreat

/-
  Terms as plain data.
-/
set_option maxRecDepth 100000
namespace Go.Proofs.YtbfgoopcnkeblaaGreat
open Go.Proofs.YtbfgoopcnkeblaaGreat.Am
inductive TD where
 | mk (r : Int) (k : Nat) (t : List Nat) (b : Int) (ns : List (List Nat)) (ks : List TD)
def TD.ref : TD → Int | .mk r _ _ _ _ _ => r
def TD.kind : TD → Nat | .mk _ k _ _ _ _ => k
def TD.text : TD → List Nat | .mk _ _ t _ _ _ => t
def TD.base : TD → Int | .mk _ _ _ b _ _ => b
def TD.names : TD → List (List Nat) | .mk _ _ _ _ ns _ => ns
def TD.kids : TD → List TD | .mk _ _ _ _ _ ks => ks
mutual
def TD.av : TD → AV
 | .mk r k t b ns ks => .agg [.i .i64 r, .i .u8 (k : Nat), .s t, .i .i64 b, tx ns, .ws false 6 (TD.avs ks)]
def TD.avs : List TD → List AV
 | [] => []
 | n :: l => n.av :: TD.avs l
end
theorem TD.avs_map : ∀ l : List TD, TD.avs l = l.map TD.av
 | [] => by simp [TD.avs]
 | n :: l => by simp only [TD.avs, TD.avs_map l, List.map_cons]
def TD.cells (n : TD) : List AV := [.i .i64 n.ref, .i .u8 (n.kind : Nat), .s n.text, .i .i64 n.base, tx n.names, .ws false 6 (n.kids.map TD.av)]
theorem TD.av_eq (n : TD) : n.av = .agg n.cells := by
 cases n with
 | mk r k t b ns ks => simp only [TD.av, TD.avs_map, TD.cells, TD.ref, TD.base, TD.kind, TD.text, TD.names, TD.kids]
theorem TD.lt {n k : TD} (h : k ∈ n.kids) : SizeOf.sizeOf k < SizeOf.sizeOf n := by
 cases n with
 | mk r a t b ns ks =>
   have h : k ∈ ks := h
   have := List.sizeOf_lt_of_mem h
   simp only [TD.mk.sizeOf_spec]
   omega
theorem TD.ind {P : TD → Prop} (h : ∀ n, (∀ k ∈ n.kids, P k) → P n) (n : TD) : P n := by
 have : ∀ (m : Nat) (n : TD), SizeOf.sizeOf n < m → P n := by
  intro m
  induction m with
  | zero => intro n hn; omega
  | succ m ih =>
    intro n hn
    exact h n fun k hk => ih k (by have := TD.lt hk; omega)
 exact this _ n (Nat.lt_succ_self _)
mutual
def TD.nd : TD → ND
 | .mk _ k t _ ns ks => .mk k t ns (TD.nds ks)
def TD.nds : List TD → List ND
 | [] => []
 | k :: l => k.nd :: TD.nds l
end
theorem TD.nds_map : ∀ l : List TD, TD.nds l = l.map TD.nd
 | [] => by simp [TD.nds]
 | n :: l => by simp only [TD.nds, TD.nds_map l, List.map_cons]
theorem TD.nd_eq (n : TD) : n.nd = .mk n.kind n.text n.names (n.kids.map TD.nd) := by
 cases n with
 | mk r k t b ns ks => simp only [TD.nd, TD.nds_map, TD.kind, TD.text, TD.names, TD.kids]
mutual
def ND.td : ND → TD
 | .mk k t ns ks => .mk (-1) k t (-1) ns (ND.tds ks)
def ND.tds : List ND → List TD
 | [] => []
 | k :: l => k.td :: ND.tds l
end
theorem ND.tds_map : ∀ l : List ND, ND.tds l = l.map ND.td
 | [] => by simp [ND.tds]
 | n :: l => by simp only [ND.tds, ND.tds_map l, List.map_cons]
theorem ND.td_eq (n : ND) : n.td = .mk (-1) n.kind n.text (-1) n.names (n.kids.map ND.td) := by
 cases n with
 | mk k t ns ks => simp only [ND.td, ND.tds_map, ND.kind, ND.text, ND.names, ND.kids]
-- Was a term made whole?
mutual
def DC : TD → Bool
 | .mk r _ _ b _ ks => decide (r = -1) && (decide (b = -1) && NU ks)
def NU : List TD → Bool
 | [] => true
 | k :: l => DC k && NU l
end
theorem Lm : ∀ l : List TD, NU l = l.all DC
 | [] => by simp [NU]
 | n :: l => by simp only [NU, Lm l, List.all_cons]
theorem Kt (n : TD) : DC n = (decide (n.ref = -1) && (decide (n.base = -1) && n.kids.all DC)) := by
 cases n with
 | mk r k t b ns ks => simp only [DC, Lm, TD.ref, TD.base, TD.kids]; rfl
-- What a term is in all.
mutual
def Fc : TD → Nat
 | .mk _ _ t _ ns ks => 6 + t.length + (ns.map fun l => 1 + l.length).sum + NV ks
def NV : List TD → Nat
 | [] => 0
 | k :: ks => Fc k + NV ks
end
theorem Ln : ∀ l : List TD, NV l = (l.map Fc).sum
 | [] => by simp [NV]
 | k :: l => by simp only [NV, Ln l, List.map_cons, List.sum_cons]
theorem PM (n : TD) : Fc n = 6 + n.text.length + (n.names.map fun l => 1 + l.length).sum + (n.kids.map Fc).sum := by
 cases n with
 | mk r a t b ns ks => simp only [Fc, Ln, TD.kids, TD.text, TD.names]
end Go.Proofs.YtbfgoopcnkeblaaGreat

/-
  A node's weight, and its bulk.
-/
set_option maxRecDepth 100000
set_option maxHeartbeats 2000000
namespace Go.Proofs.YtbfgoopcnkeblaaGreat
open Go.Proofs.YtbfgoopcnkeblaaGreat.Am
attribute [local irreducible] W WO WE WQ WD Tr.get Tr.set
mutual
def Fe : ND → Nat
 | .mk _ t ns ks => 4 + t.length + (ns.map fun l => 1 + l.length).sum + Rz ks
def Rz : List ND → Nat
 | [] => 0
 | k :: ks => Fe k + Rz ks
end
theorem Nb : ∀ l : List ND, Rz l = (l.map Fe).sum
 | [] => by simp [Rz]
 | k :: l => by simp only [Rz, Nb l, List.map_cons, List.sum_cons]
theorem PV (n : ND) : Fe n = 4 + n.text.length + (n.names.map fun l => 1 + l.length).sum + (n.kids.map Fe).sum := by
 cases n with
 | mk a t ns ks => simp only [Fe, Nb, ND.kids, ND.text, ND.names]
theorem Tc (a : Nat) (h : a < 2 ^ 62) : Am.binOp .quo (.i .i64 (a : Int)) (.i .i64 64) = some (.i .i64 ((a / 64 : Nat) : Int)) := by
 have h1 : ((a : Int).tdiv 64) = ((a / 64 : Nat) : Int) := by
  rw [Int.tdiv_eq_ediv_of_nonneg (by omega)]; rfl
 show (if (64 : Int) = 0 then none else some (AV.i .i64 (IntKind.i64.wrap ((a : Int).tdiv 64)))) = _
 rw [if_neg (by decide), h1, CA (by omega)]
theorem R0 : ∀ n : ND, n.Ok → Fe n < 2 ^ 60 → ∀ s, Wf s → ∃ r s', (lim prog).call Bv [.agg n.cells] s = some (r, s') ∧ s' = s ∧ ∃ w, w ≤ Fe n ∧ r = .i .i64 (w : Nat) := by
 refine ND.ind fun n ih ho hb s hw => ?_
 refine fn_G (Post := fun r s' => s' = s ∧ ∃ w, w ≤ Fe n ∧ r = .i .i64 (w : Nat)) FX rfl rfl ?_
 have H1 := (Hp.begin hw).new (.cells 30 n.cells)
 generalize hq : s.enter.new (.cells 30 n.cells) = q at H1
 generalize hm : s.enter.nb = m at H1
 have l1 := H1.ld 0 (off := 1) (v := .s n.text) rfl rfl
 have l2 := H1.ld 0 (off := 2) (v := tx n.names) rfl rfl
 have l3 := H1.ld 0 (off := 3) (v := .ws false 4 (n.kids.map ND.av)) rfl rfl
 have hz0 : wkZ AW.cin [.agg n.cells] = [.agg n.cells] := by simp [AW, wkZ, wk, ND.cells]
 have hkl := ho.kids.2
 have hbn := PV n
 have hnl := ho.names.2
 rw [hz0]
 have hq0 := Tc n.text.length (by omega)
 have hw0 : IntKind.i64.wrap (1 + ((n.text.length / 64 : Nat) : Int)) = ((1 + n.text.length / 64 : Nat) : Int) := by
  rw [show 1 + ((n.text.length / 64 : Nat) : Int) = ((1 + n.text.length / 64 : Nat) : Int) by omega]; exact CA (by omega)
 simp only [AW, go_sem, AD, AA, AC, AB, KB_n, KB_x, Nat.reduceBEq, Nat.reduceAdd, Nat.reduceLT, Nat.reduceLeDiff, Nat.reduceEqDiff, reduceIte, Int.reduceEq, reduceCtorEq, BO, hq, hm, l1, hq0, hw0, Nat.zero_add]
 -- the kids
 have hend : ∀ (w : Nat) e, w ≤ 1 + n.text.length + (n.names.map fun l => 1 + l.length).sum → e.get 1 = .p m 0 → e.get 3 = .i .i64 (w : Nat) → e.get 5 = .i .i64 0 →
     W (lim prog) (subC AW.body [1, 1, 1, 0, 1, 0]) e q (KB 2 (KS (lim prog) (subC AW.body [1, 1, 1, 1]) (KG s AW.res AW.cout (fun r s' => s' = s ∧ ∃ w, w ≤ Fe n ∧ r = .i .i64 (w : Nat))))) := by
  intro w0 e h0 g1 g3 g5
  simp only [AW, subC]
  refine Ba (fun x e q' => ∃ i w : Nat, i + x = n.kids.length ∧ q' = q ∧ w ≤ 1 + n.text.length + (n.names.map fun l => 1 + l.length).sum + ((n.kids.take i).map Fe).sum ∧ e.get 1 = .p m 0 ∧ e.get 3 = .i .i64 (w : Nat) ∧ e.get 5 = .i .i64 (i : Nat)) ?_ n.kids.length _ _ ⟨0, w0, by omega, rfl, by simp; omega, g1, g3, g5⟩
  rintro x e q' ⟨i, w, hi, rfl, hn, g1, g3, g4⟩
  have hts := DP Fe n.kids i
  have hfin : KH s [.id] (fun r s' => s' = s ∧ ∃ w, w ≤ Fe n ∧ r = .i .i64 (w : Nat)) (some ([.i .i64 (w : Nat)], q')) := ⟨_, _, rfl, H1.over.leave rfl, w, by omega, rfl⟩
  by_cases h : i < n.kids.length
  · have e1 : ((i : Int) < (n.kids.length : Int)) = True := by simp only [eq_iff_iff, iff_true]; omega
    by_cases h' : w < 1000
    · have e2 : ((w : Int) < 1000) = True := by simp only [eq_iff_iff, iff_true]; omega
      obtain ⟨k, hk1⟩ : ∃ k, n.kids[i]? = some k := ⟨_, List.getElem?_eq_getElem h⟩
      have hmem : k ∈ n.kids := List.mem_of_getElem? hk1
      have hget := JH hk1
      have hle := Lj (f := Fe) hmem
      have hsu := Ec Fe hk1
      have hts2 := DP Fe n.kids (i + 1)
      have hld : ldA q' true 4 (.ep k.cells 0 .shut) = some (.agg k.cells) := rfl
      obtain ⟨_, _, hc, rfl, v, hv, rfl⟩ := ih k hmem (ho.kids.1 k hmem) (by omega) q' H1.wf
      have hwb : IntKind.i64.wrap ((w : Int) + (v : Int)) = ((w + v : Nat) : Int) := by
       rw [show (w : Int) + (v : Int) = ((w + v : Nat) : Int) by omega]; exact CA (by omega)
      have hw1 := Af (show i + 1 < 2 ^ 63 by omega)
      simp only [go_sem, AD, AA, AC, AB, KB_n, KB_x, Nat.reduceBEq, Nat.reduceAdd, Nat.reduceLT, Nat.reduceLeDiff, Nat.reduceEqDiff, reduceIte, Int.reduceEq, reduceCtorEq, g1, g3, g4, l3, List.length_map, e1, e2, AI, hget, hld, BG, hc, hwb, hw1, Nat.zero_add]
      exact ⟨x - 1, by omega, i + 1, w + v, by omega, by omega, rfl, rfl⟩
    · have e2 : ((w : Int) < 1000) = False := by simp only [eq_iff_iff, iff_false]; omega
      simp only [go_sem, AD, AA, AC, AB, KB_n, KB_x, Nat.reduceBEq, Nat.reduceAdd, Nat.reduceLT, Nat.reduceLeDiff, Nat.reduceEqDiff, reduceIte, Int.reduceEq, reduceCtorEq, g1, g3, g4, l3, List.length_map, e1, e2, Nat.zero_add]
      exact hfin
  · have e1 : ((i : Int) < (n.kids.length : Int)) = False := by simp only [eq_iff_iff, iff_false]; omega
    simp only [go_sem, AD, AA, AC, AB, KB_n, KB_x, Nat.reduceBEq, Nat.reduceAdd, Nat.reduceLT, Nat.reduceLeDiff, Nat.reduceEqDiff, reduceIte, Int.reduceEq, reduceCtorEq, g1, g3, g4, l3, List.length_map, e1, Nat.zero_add]
    exact hfin
 refine Ba (fun x e q' => ∃ i w : Nat, i + x = n.names.length ∧ q' = q ∧ w ≤ 1 + n.text.length + ((n.names.take i).map fun l => 1 + l.length).sum ∧ e.get 1 = .p m 0 ∧ e.get 3 = .i .i64 (w : Nat) ∧ e.get 4 = .i .i64 (i : Nat)) ?_ n.names.length _ _ ?_
 · rintro x e q' ⟨i, w, hi, rfl, hn, g1, g3, g4⟩
   have hts := DP (fun l : List Nat => 1 + l.length) n.names i
   by_cases h : i < n.names.length ∧ w < 1000
   · obtain ⟨h, h'⟩ := h
     have e1 : ((i : Int) < (n.names.length : Int)) = True := by simp only [eq_iff_iff, iff_true]; omega
     have e2 : ((w : Int) < 1000) = True := by simp only [eq_iff_iff, iff_true]; omega
     obtain ⟨y, hy⟩ : ∃ y, n.names[i]? = some y := ⟨_, List.getElem?_eq_getElem h⟩
     have hy2 : (n.names.map AV.s)[i]? = some (.s y) := by rw [List.getElem?_map, hy]; rfl
     have hsu : ((n.names.take (i + 1)).map fun l : List Nat => 1 + l.length).sum = ((n.names.take i).map fun l : List Nat => 1 + l.length).sum + (1 + y.length) := Ec (fun l : List Nat => 1 + l.length) hy
     have hts2 := DP (fun l : List Nat => 1 + l.length) n.names (i + 1)
     have hq1 := Tc y.length (by omega)
     have hwa : IntKind.i64.wrap ((w : Int) + 1) = ((w + 1 : Nat) : Int) := Af (by omega)
     have hwb : IntKind.i64.wrap (((w + 1 : Nat) : Int) + ((y.length / 64 : Nat) : Int)) = ((w + 1 + y.length / 64 : Nat) : Int) := by
      rw [show ((w + 1 : Nat) : Int) + ((y.length / 64 : Nat) : Int) = ((w + 1 + y.length / 64 : Nat) : Int) by omega]; exact CA (by omega)
     have hw1 := Af (show i + 1 < 2 ^ 63 by omega)
     simp only [go_sem, AD, AA, AC, AB, KB_n, KB_x, Nat.reduceBEq, Nat.reduceAdd, Nat.reduceLT, Nat.reduceLeDiff, Nat.reduceEqDiff, reduceIte, Int.reduceEq, reduceCtorEq, g1, g3, g4, l2, List.length_map, e1, e2, AI, hy2, BD, Cf, hq1, hwa, hwb, hw1, Nat.zero_add]
     exact ⟨x - 1, by omega, i + 1, w + 1 + y.length / 64, by omega, by omega, rfl, rfl⟩
   · have hle : w ≤ 1 + n.text.length + (n.names.map fun l => 1 + l.length).sum := by omega
     by_cases h1 : i < n.names.length
     · have e1 : ((i : Int) < (n.names.length : Int)) = True := by simp only [eq_iff_iff, iff_true]; omega
       have e2 : ((w : Int) < 1000) = False := by simp only [eq_iff_iff, iff_false]; omega
       simp only [go_sem, AD, AA, AC, AB, KB_n, KB_x, Nat.reduceBEq, Nat.reduceAdd, Nat.reduceLT, Nat.reduceLeDiff, Nat.reduceEqDiff, reduceIte, Int.reduceEq, reduceCtorEq, g1, g3, g4, l2, List.length_map, e1, e2, Nat.zero_add]
       refine hend w _ hle ?_ ?_ ?_ <;> simp only [go_sem, AD, AA, AC, AB, KB_n, KB_x, Nat.reduceBEq, Nat.reduceAdd, Nat.reduceLT, Nat.reduceLeDiff, Nat.reduceEqDiff, reduceIte, Int.reduceEq, reduceCtorEq, g1, g3]
     · have e1 : ((i : Int) < (n.names.length : Int)) = False := by simp only [eq_iff_iff, iff_false]; omega
       simp only [go_sem, AD, AA, AC, AB, KB_n, KB_x, Nat.reduceBEq, Nat.reduceAdd, Nat.reduceLT, Nat.reduceLeDiff, Nat.reduceEqDiff, reduceIte, Int.reduceEq, reduceCtorEq, g1, g3, g4, l2, List.length_map, e1, Nat.zero_add]
       refine hend w _ hle ?_ ?_ ?_ <;> simp only [go_sem, AD, AA, AC, AB, KB_n, KB_x, Nat.reduceBEq, Nat.reduceAdd, Nat.reduceLT, Nat.reduceLeDiff, Nat.reduceEqDiff, reduceIte, Int.reduceEq, reduceCtorEq, g1, g3]
 · simp only [go_sem, AD, AA, AC, AB, KB_n, KB_x, Nat.reduceBEq, Nat.reduceAdd, Nat.reduceLT, Nat.reduceLeDiff, Nat.reduceEqDiff, reduceIte, Int.reduceEq, reduceCtorEq]
   exact ⟨0, 1 + n.text.length / 64, by omega, by simp; omega, rfl, rfl⟩
end Go.Proofs.YtbfgoopcnkeblaaGreat

/-
  Terms: how heavy one is; was one made whole?
-/
set_option maxRecDepth 100000
set_option maxHeartbeats 2000000
namespace Go.Proofs.YtbfgoopcnkeblaaGreat
open Go.Proofs.YtbfgoopcnkeblaaGreat.Am
attribute [local irreducible] W WO WE WQ WD Tr.get Tr.set
inductive TD.Ok : TD → Prop
 | mk {r : Int} {k : Nat} {t : List Nat} {b : Int} {ns : List (List Nat)} {ks : List TD} : k < 256 → Txt t → t.length < 2 ^ 62 → (∀ l ∈ ns, Txt l) → ns.length < 2 ^ 34 → ks.length < 2 ^ 34 → (∀ x ∈ ks, TD.Ok x) → TD.Ok (.mk r k t b ns ks)
theorem TD.Ok.kind {n : TD} (h : n.Ok) : n.kind < 256 := by cases h; assumption
theorem TD.Ok.text {n : TD} (h : n.Ok) : Txt n.text ∧ n.text.length < 2 ^ 62 := by cases h; exact ⟨by assumption, by assumption⟩
theorem TD.Ok.names {n : TD} (h : n.Ok) : (∀ l ∈ n.names, Txt l) ∧ n.names.length < 2 ^ 34 := by cases h; exact ⟨by assumption, by assumption⟩
theorem TD.Ok.kids {n : TD} (h : n.Ok) : (∀ k ∈ n.kids, k.Ok) ∧ n.kids.length < 2 ^ 34 := by cases h; exact ⟨by assumption, by assumption⟩
theorem F9 {n : TD} {i : Nat} {k : TD} (h : n.kids[i]? = some k) : (n.kids.map TD.av)[i]? = some (.agg k.cells) := by
 rw [List.getElem?_map, h, Option.map_some, TD.av_eq]
theorem A4 (k : TD) : k.cells.length = 6 := rfl
theorem PN (k : TD) : ones k.cells = true := rfl
theorem AR (k : TD) (s : St) : pubL s k.cells = some (k.cells, s) := rfl
theorem Lo (k : TD) (s : St) : frzL s k.cells = some (k.cells, s) := rfl
theorem C1 (f : TD) (s : St) : ldA s true 6 (.ep f.cells 0 .shut) = some (.agg f.cells) := rfl
theorem PO : ∀ n : TD, n.av.refs = false := by
 refine TD.ind fun n ih => ?_
 have : ∀ l : List TD, (∀ k ∈ l, k.av.refs = false) → AV.refs.go (l.map TD.av) = false := by
  intro l
  induction l with
  | nil => intro _; rfl
  | cons a l il =>
    intro h
    simp only [List.map_cons, AV.refs.go, h a (by simp), il fun k hk => h k (by simp [hk]), Bool.or_self]
 rw [TD.av_eq]
 simp only [TD.cells, AV.refs, AV.refs.go, this _ ih, EY, Bool.or_self]
theorem TR : ∀ n : TD, n.Ok → Fc n < 2 ^ 60 → ∀ s, Wf s → ∃ r s', (lim prog).call B7 [.agg n.cells] s = some (r, s') ∧ s' = s ∧ ∃ w, w ≤ Fc n ∧ r = .i .i64 (w : Nat) := by
 refine TD.ind fun n ih ho hb s hw => ?_
 refine fn_G (Post := fun r s' => s' = s ∧ ∃ w, w ≤ Fc n ∧ r = .i .i64 (w : Nat)) F5 rfl rfl ?_
 have H1 := (Hp.begin hw).new (.cells 34 n.cells)
 generalize hq : s.enter.new (.cells 34 n.cells) = q at H1
 generalize hm : s.enter.nb = m at H1
 have l1 := H1.ld 0 (off := 2) (v := .s n.text) rfl rfl
 have l2 := H1.ld 0 (off := 4) (v := tx n.names) rfl rfl
 have l3 := H1.ld 0 (off := 5) (v := .ws false 6 (n.kids.map TD.av)) rfl rfl
 have hz0 : wkZ Aa.cin [.agg n.cells] = [.agg n.cells] := by simp [Aa, wkZ, wk, TD.cells]
 have hkl := ho.kids.2
 have hbn := PM n
 have hnl := ho.names.2
 rw [hz0]
 have hq0 := Tc n.text.length (by omega)
 have hw0 : IntKind.i64.wrap (1 + ((n.text.length / 64 : Nat) : Int)) = ((1 + n.text.length / 64 : Nat) : Int) := by
  rw [show 1 + ((n.text.length / 64 : Nat) : Int) = ((1 + n.text.length / 64 : Nat) : Int) by omega]; exact CA (by omega)
 simp only [Aa, go_sem, AD, AA, AC, AB, KB_n, KB_x, Nat.reduceBEq, Nat.reduceAdd, Nat.reduceLT, Nat.reduceLeDiff, Nat.reduceEqDiff, reduceIte, Int.reduceEq, reduceCtorEq, A4, hq, hm, l1, hq0, hw0, Nat.zero_add]
 -- the kids
 have hend : ∀ (w : Nat) e, w ≤ 1 + n.text.length + (n.names.map fun l => 1 + l.length).sum → e.get 1 = .p m 0 → e.get 3 = .i .i64 (w : Nat) → e.get 5 = .i .i64 0 →
     W (lim prog) (subC Aa.body [1, 1, 1, 0, 1, 0]) e q (KB 2 (KS (lim prog) (subC Aa.body [1, 1, 1, 1]) (KG s Aa.res Aa.cout (fun r s' => s' = s ∧ ∃ w, w ≤ Fc n ∧ r = .i .i64 (w : Nat))))) := by
  intro w0 e h0 g1 g3 g5
  simp only [Aa, subC]
  refine Ba (fun x e q' => ∃ i w : Nat, i + x = n.kids.length ∧ q' = q ∧ w ≤ 1 + n.text.length + (n.names.map fun l => 1 + l.length).sum + ((n.kids.take i).map Fc).sum ∧ e.get 1 = .p m 0 ∧ e.get 3 = .i .i64 (w : Nat) ∧ e.get 5 = .i .i64 (i : Nat)) ?_ n.kids.length _ _ ⟨0, w0, by omega, rfl, by simp; omega, g1, g3, g5⟩
  rintro x e q' ⟨i, w, hi, rfl, hn, g1, g3, g4⟩
  have hts := DP Fc n.kids i
  have hfin : KH s [.id] (fun r s' => s' = s ∧ ∃ w, w ≤ Fc n ∧ r = .i .i64 (w : Nat)) (some ([.i .i64 (w : Nat)], q')) := ⟨_, _, rfl, H1.over.leave rfl, w, by omega, rfl⟩
  by_cases h : i < n.kids.length
  · have e1 : ((i : Int) < (n.kids.length : Int)) = True := by simp only [eq_iff_iff, iff_true]; omega
    by_cases h' : w < 1000
    · have e2 : ((w : Int) < 1000) = True := by simp only [eq_iff_iff, iff_true]; omega
      obtain ⟨k, hk1⟩ : ∃ k, n.kids[i]? = some k := ⟨_, List.getElem?_eq_getElem h⟩
      have hmem : k ∈ n.kids := List.mem_of_getElem? hk1
      have hget := F9 hk1
      have hle := Lj (f := Fc) hmem
      have hsu := Ec Fc hk1
      have hts2 := DP Fc n.kids (i + 1)
      have hld : ldA q' true 6 (.ep k.cells 0 .shut) = some (.agg k.cells) := rfl
      obtain ⟨_, _, hc, rfl, v, hv, rfl⟩ := ih k hmem (ho.kids.1 k hmem) (by omega) q' H1.wf
      have hwb : IntKind.i64.wrap ((w : Int) + (v : Int)) = ((w + v : Nat) : Int) := by
       rw [show (w : Int) + (v : Int) = ((w + v : Nat) : Int) by omega]; exact CA (by omega)
      have hw1 := Af (show i + 1 < 2 ^ 63 by omega)
      simp only [go_sem, AD, AA, AC, AB, KB_n, KB_x, Nat.reduceBEq, Nat.reduceAdd, Nat.reduceLT, Nat.reduceLeDiff, Nat.reduceEqDiff, reduceIte, Int.reduceEq, reduceCtorEq, g1, g3, g4, l3, List.length_map, e1, e2, AI, hget, hld, AR, hc, hwb, hw1, Nat.zero_add]
      exact ⟨x - 1, by omega, i + 1, w + v, by omega, by omega, rfl, rfl⟩
    · have e2 : ((w : Int) < 1000) = False := by simp only [eq_iff_iff, iff_false]; omega
      simp only [go_sem, AD, AA, AC, AB, KB_n, KB_x, Nat.reduceBEq, Nat.reduceAdd, Nat.reduceLT, Nat.reduceLeDiff, Nat.reduceEqDiff, reduceIte, Int.reduceEq, reduceCtorEq, g1, g3, g4, l3, List.length_map, e1, e2, Nat.zero_add]
      exact hfin
  · have e1 : ((i : Int) < (n.kids.length : Int)) = False := by simp only [eq_iff_iff, iff_false]; omega
    simp only [go_sem, AD, AA, AC, AB, KB_n, KB_x, Nat.reduceBEq, Nat.reduceAdd, Nat.reduceLT, Nat.reduceLeDiff, Nat.reduceEqDiff, reduceIte, Int.reduceEq, reduceCtorEq, g1, g3, g4, l3, List.length_map, e1, Nat.zero_add]
    exact hfin
 refine Ba (fun x e q' => ∃ i w : Nat, i + x = n.names.length ∧ q' = q ∧ w ≤ 1 + n.text.length + ((n.names.take i).map fun l => 1 + l.length).sum ∧ e.get 1 = .p m 0 ∧ e.get 3 = .i .i64 (w : Nat) ∧ e.get 4 = .i .i64 (i : Nat)) ?_ n.names.length _ _ ?_
 · rintro x e q' ⟨i, w, hi, rfl, hn, g1, g3, g4⟩
   have hts := DP (fun l : List Nat => 1 + l.length) n.names i
   by_cases h : i < n.names.length ∧ w < 1000
   · obtain ⟨h, h'⟩ := h
     have e1 : ((i : Int) < (n.names.length : Int)) = True := by simp only [eq_iff_iff, iff_true]; omega
     have e2 : ((w : Int) < 1000) = True := by simp only [eq_iff_iff, iff_true]; omega
     obtain ⟨y, hy⟩ : ∃ y, n.names[i]? = some y := ⟨_, List.getElem?_eq_getElem h⟩
     have hy2 : (n.names.map AV.s)[i]? = some (.s y) := by rw [List.getElem?_map, hy]; rfl
     have hsu : ((n.names.take (i + 1)).map fun l : List Nat => 1 + l.length).sum = ((n.names.take i).map fun l : List Nat => 1 + l.length).sum + (1 + y.length) := Ec (fun l : List Nat => 1 + l.length) hy
     have hts2 := DP (fun l : List Nat => 1 + l.length) n.names (i + 1)
     have hq1 := Tc y.length (by omega)
     have hwa : IntKind.i64.wrap ((w : Int) + 1) = ((w + 1 : Nat) : Int) := Af (by omega)
     have hwb : IntKind.i64.wrap (((w + 1 : Nat) : Int) + ((y.length / 64 : Nat) : Int)) = ((w + 1 + y.length / 64 : Nat) : Int) := by
      rw [show ((w + 1 : Nat) : Int) + ((y.length / 64 : Nat) : Int) = ((w + 1 + y.length / 64 : Nat) : Int) by omega]; exact CA (by omega)
     have hw1 := Af (show i + 1 < 2 ^ 63 by omega)
     simp only [go_sem, AD, AA, AC, AB, KB_n, KB_x, Nat.reduceBEq, Nat.reduceAdd, Nat.reduceLT, Nat.reduceLeDiff, Nat.reduceEqDiff, reduceIte, Int.reduceEq, reduceCtorEq, g1, g3, g4, l2, List.length_map, e1, e2, AI, hy2, BD, Cf, hq1, hwa, hwb, hw1, Nat.zero_add]
     exact ⟨x - 1, by omega, i + 1, w + 1 + y.length / 64, by omega, by omega, rfl, rfl⟩
   · have hle : w ≤ 1 + n.text.length + (n.names.map fun l => 1 + l.length).sum := by omega
     by_cases h1 : i < n.names.length
     · have e1 : ((i : Int) < (n.names.length : Int)) = True := by simp only [eq_iff_iff, iff_true]; omega
       have e2 : ((w : Int) < 1000) = False := by simp only [eq_iff_iff, iff_false]; omega
       simp only [go_sem, AD, AA, AC, AB, KB_n, KB_x, Nat.reduceBEq, Nat.reduceAdd, Nat.reduceLT, Nat.reduceLeDiff, Nat.reduceEqDiff, reduceIte, Int.reduceEq, reduceCtorEq, g1, g3, g4, l2, List.length_map, e1, e2, Nat.zero_add]
       refine hend w _ hle ?_ ?_ ?_ <;> simp only [go_sem, AD, AA, AC, AB, KB_n, KB_x, Nat.reduceBEq, Nat.reduceAdd, Nat.reduceLT, Nat.reduceLeDiff, Nat.reduceEqDiff, reduceIte, Int.reduceEq, reduceCtorEq, g1, g3]
     · have e1 : ((i : Int) < (n.names.length : Int)) = False := by simp only [eq_iff_iff, iff_false]; omega
       simp only [go_sem, AD, AA, AC, AB, KB_n, KB_x, Nat.reduceBEq, Nat.reduceAdd, Nat.reduceLT, Nat.reduceLeDiff, Nat.reduceEqDiff, reduceIte, Int.reduceEq, reduceCtorEq, g1, g3, g4, l2, List.length_map, e1, Nat.zero_add]
       refine hend w _ hle ?_ ?_ ?_ <;> simp only [go_sem, AD, AA, AC, AB, KB_n, KB_x, Nat.reduceBEq, Nat.reduceAdd, Nat.reduceLT, Nat.reduceLeDiff, Nat.reduceEqDiff, reduceIte, Int.reduceEq, reduceCtorEq, g1, g3]
 · simp only [go_sem, AD, AA, AC, AB, KB_n, KB_x, Nat.reduceBEq, Nat.reduceAdd, Nat.reduceLT, Nat.reduceLeDiff, Nat.reduceEqDiff, reduceIte, Int.reduceEq, reduceCtorEq]
   exact ⟨0, 1 + n.text.length / 64, by omega, by simp; omega, rfl, rfl⟩
theorem OK : ∀ n : TD, n.Ok → ∀ s, Wf s → (lim prog).call B8 [.agg n.cells] s = some (.b (DC n), s) := by
 refine TD.ind fun n ih ho s hw => ?_
 refine fn_W F7 rfl rfl ?_
 have H1 := (Hp.begin hw).new (.cells 34 n.cells)
 generalize hq : s.enter.new (.cells 34 n.cells) = q at H1
 generalize hm : s.enter.nb = m at H1
 have l0 := H1.ld 0 (off := 0) (v := .i .i64 n.ref) rfl rfl
 have l3 := H1.ld 0 (off := 3) (v := .i .i64 n.base) rfl rfl
 have l5 := H1.ld 0 (off := 5) (v := .ws false 6 (n.kids.map TD.av)) rfl rfl
 have hz0 : wkZ BM.cin [.agg n.cells] = [.agg n.cells] := by simp [BM, wkZ, wk, TD.cells]
 have hkl := ho.kids.2
 have hbr : ∀ b, KR s [.id] (.b b) (some ([.b b], q)) := fun b => AO H1.over rfl rfl
 rw [hz0, Kt]
 simp only [BM, go_sem, AD, AA, AC, AB, KB_n, KB_x, Nat.reduceBEq, Nat.reduceAdd, Nat.reduceLT, Nat.reduceLeDiff, Nat.reduceEqDiff, reduceIte, Int.reduceEq, reduceCtorEq, A4, hq, hm]
 refine Ba (fun x e q' => ∃ i : Nat, i + x = n.kids.length ∧ q' = q ∧ (n.kids.take i).all DC = true ∧ e.get 1 = .p m 0 ∧ e.get 3 = .i .i64 (i : Nat)) ?_ n.kids.length _ _ ⟨0, by omega, rfl, by simp, by simp only [go_sem, AD, AA, AC, AB, KB_n, KB_x, Nat.reduceBEq, Nat.reduceAdd, Nat.reduceLT, Nat.reduceLeDiff, Nat.reduceEqDiff, reduceIte, Int.reduceEq, reduceCtorEq], by simp only [go_sem, AD, AA, AC, AB, KB_n, KB_x, Nat.reduceBEq, Nat.reduceAdd, Nat.reduceLT, Nat.reduceLeDiff, Nat.reduceEqDiff, reduceIte, Int.reduceEq, reduceCtorEq]; rfl⟩
 rintro x e q' ⟨i, hi, rfl, hall, g1, g3⟩
 by_cases h : i < n.kids.length
 · have e1 : ((i : Int) < (n.kids.length : Int)) = True := by simp only [eq_iff_iff, iff_true]; omega
   obtain ⟨k, hk1⟩ : ∃ k, n.kids[i]? = some k := ⟨_, List.getElem?_eq_getElem h⟩
   have hmem : k ∈ n.kids := List.mem_of_getElem? hk1
   have hget := F9 hk1
   have hc := ih k hmem (ho.kids.1 k hmem) q' H1.wf
   have hw1 := Af (show i + 1 < 2 ^ 63 by omega)
   cases hwk : DC k with
   | false =>
     rw [hwk] at hc
     have : n.kids.all DC = false := by
      rw [Bool.eq_false_iff]
      intro hh
      rw [List.all_eq_true] at hh
      rw [hh k hmem] at hwk; cases hwk
     rw [this]
     simp only [go_sem, AD, AA, AC, AB, KB_n, KB_x, Nat.reduceBEq, Nat.reduceAdd, Nat.reduceLT, Nat.reduceLeDiff, Nat.reduceEqDiff, reduceIte, Int.reduceEq, reduceCtorEq, g1, g3, l5, List.length_map, e1, AI, hget, C1, AR, hc, Nat.zero_add, Bool.and_false]
     exact hbr _
   | true =>
     rw [hwk] at hc
     simp only [go_sem, AD, AA, AC, AB, KB_n, KB_x, Nat.reduceBEq, Nat.reduceAdd, Nat.reduceLT, Nat.reduceLeDiff, Nat.reduceEqDiff, reduceIte, Int.reduceEq, reduceCtorEq, g1, g3, l5, List.length_map, e1, AI, hget, C1, AR, hc, hw1, Nat.zero_add]
     refine ⟨x - 1, by omega, i + 1, by omega, ?_, rfl⟩
     rw [List.take_add_one, hk1]
     simp [hall, hwk]
 · have e1 : ((i : Int) < (n.kids.length : Int)) = False := by simp only [eq_iff_iff, iff_false]; omega
   rw [List.take_of_length_le (by omega)] at hall
   rw [hall, Bool.and_true]
   by_cases c1 : n.ref = -1
   · by_cases c2 : n.base = -1
     · simp only [go_sem, AD, AA, AC, AB, KB_n, KB_x, Nat.reduceBEq, Nat.reduceAdd, Nat.reduceLT, Nat.reduceLeDiff, Nat.reduceEqDiff, reduceIte, Int.reduceEq, reduceCtorEq, g1, g3, l0, l3, l5, List.length_map, e1, Nat.zero_add, c1, c2]
       exact hbr _
     · simp only [go_sem, AD, AA, AC, AB, KB_n, KB_x, Nat.reduceBEq, Nat.reduceAdd, Nat.reduceLT, Nat.reduceLeDiff, Nat.reduceEqDiff, reduceIte, Int.reduceEq, reduceCtorEq, g1, g3, l0, l3, l5, List.length_map, e1, Nat.zero_add, c1, decide_eq_false c2, Bool.and_false]
       exact hbr _
   · simp only [go_sem, AD, AA, AC, AB, KB_n, KB_x, Nat.reduceBEq, Nat.reduceAdd, Nat.reduceLT, Nat.reduceLeDiff, Nat.reduceEqDiff, reduceIte, Int.reduceEq, reduceCtorEq, g1, g3, l0, l3, l5, List.length_map, e1, Nat.zero_add, decide_eq_false c1, Bool.false_and]
     exact hbr _
end Go.Proofs.YtbfgoopcnkeblaaGreat

/-
  Facts as plain data: two ways to ask whether their numbers stand as they may.
-/
namespace Go.Proofs.YtbfgoopcnkeblaaGreat
def inR (m : Nat) (x : Int) : Bool := decide (1 ≤ x) && decide (x ≤ m)
theorem Lh (f : Nat → Nat) : ∀ m, (∀ j, j < m → f j = 1) → ((List.range m).map f).sum = m
 | 0, _ => rfl
 | m + 1, h => by
   rw [List.range_succ, List.map_append, List.sum_append, Lh f m (fun j hj => h j (by omega))]
   simp [h m (by omega)]
theorem VU (m : Nat) (x : Int) : ((List.range m).map fun j : Nat => if x = (j : Int) + 1 then 1 else 0).sum = if inR m x then 1 else 0 := by
 induction m with
 | zero =>
   have : inR 0 x = false := by simp [inR]; omega
   simp [this]
 | succ m ih =>
   rw [List.range_succ, List.map_append, List.sum_append, ih]
   simp only [List.map_cons, List.map_nil, List.sum_cons, List.sum_nil, inR]
   by_cases h1 : x = (m : Int) + 1
   · have a1 : ¬ (1 ≤ x ∧ x ≤ (m : Int)) := by omega
     have a2 : 1 ≤ x ∧ x ≤ ((m + 1 : Nat) : Int) := by omega
     simp only [← Bool.decide_and, decide_eq_true_eq]
     rw [if_pos h1, if_neg a1, if_pos a2]; rfl
   · simp only [← Bool.decide_and, decide_eq_true_eq]
     rw [if_neg h1]
     by_cases h2 : 1 ≤ x ∧ x ≤ (m : Int)
     · have a2 : 1 ≤ x ∧ x ≤ ((m + 1 : Nat) : Int) := by omega
       rw [if_pos h2, if_pos a2]; rfl
     · have a2 : ¬ (1 ≤ x ∧ x ≤ ((m + 1 : Nat) : Int)) := by omega
       rw [if_neg h2, if_neg a2]; rfl
theorem Ra (f g : Nat → Nat) : ∀ l : List Nat, (l.map fun j => f j + g j).sum = (l.map f).sum + (l.map g).sum
 | [] => rfl
 | a :: l => by simp only [List.map_cons, List.sum_cons, Ra f g l]; omega
theorem NL (m : Nat) : ∀ F : List Int, ((List.range m).map fun j : Nat => F.count ((j : Int) + 1)).sum = F.countP (inR m)
 | [] => by
   simp only [List.count_nil, List.countP_nil]
   induction m with
   | zero => rfl
   | succ m ih => rw [List.range_succ, List.map_append, List.sum_append, ih]; rfl
 | x :: F => by
   have h : (fun j : Nat => (x :: F).count ((j : Int) + 1)) = fun j : Nat => F.count ((j : Int) + 1) + (if x = (j : Int) + 1 then 1 else 0) := by
    funext j
    rw [List.count_cons]
    simp only [beq_iff_eq]
   rw [h, Ra, NL m F, VU, List.countP_cons]
theorem Km {m : Nat} {F : List Int} (h : ∀ j, 1 ≤ j → j ≤ m → F.count (j : Int) = 1) : F.countP (inR m) = m := by
 rw [← NL]
 refine Lh _ m fun j hj => ?_
 have := h (j + 1) (by omega) (by omega)
 simpa using this
theorem N7 {m : Nat} {F : List Int} (h : ∀ j, 1 ≤ j → j ≤ m → F.count (j : Int) = 1) (hr : ∀ x ∈ F, 1 ≤ x ∧ x ≤ (m : Int)) : F.length = m := by
 rw [← Km h]
 exact (List.countP_eq_length.2 fun x hx => by simp [inR, hr x hx]).symm
theorem Pt {m : Nat} {F : List Int} (h : ∀ j, 1 ≤ j → j ≤ m → F.count (j : Int) = 1) (hl : F.length = m) : ∀ x ∈ F, 1 ≤ x ∧ x ≤ (m : Int) := by
 have h1 := Km h
 rw [← hl] at h1
 intro x hx
 have h2 : F.countP (inR m) = F.length := by rw [hl] at h1 ⊢; exact h1
 have := List.countP_eq_length.1 h2 x hx
 simpa [inR] using this
structure FT where
 known : Bool
 kind : Nat
 names : List (List Nat)
 kids : List Int
 rest : Int
 beside : Int
def flatK (l : List FT) : List Int := (l.map FT.kids).flatten
def cntK (l : List FT) (j : Int) : Nat := (flatK l).count j
def G4 (n : Nat) : Nat → List FT → Bool
 | _, [] => true
 | i, f :: l => (f.kids.all fun k => decide ((i : Int) < k) && decide (k < (n : Int))) && G4 n (i + 1) l
def NM (l : List FT) : Bool := (List.range (l.length - 1)).all fun j => decide (cntK l ((j : Int) + 1) = 1)
theorem HT {n : Nat} : ∀ {l : List FT} {i : Nat}, G4 n i l = true ↔ ∀ (a : Nat) (f : FT), l[a]? = some f → ∀ k ∈ f.kids, ((i + a : Nat) : Int) < k ∧ k < (n : Int)
 | [], i => by simp [G4]
 | f :: l, i => by
   simp only [G4, Bool.and_eq_true, List.all_eq_true, decide_eq_true_eq, HT (l := l)]
   constructor
   · rintro ⟨h1, h2⟩ a g hg k hk
     cases a with
     | zero => simp only [List.getElem?_cons_zero, Option.some.injEq] at hg; subst hg; exact h1 k hk
     | succ a =>
       have := h2 a g (by simpa using hg) k hk
       exact ⟨by omega, this.2⟩
   · intro h
     refine ⟨fun k hk => h 0 f rfl k hk, fun a g hg k hk => ?_⟩
     have := h (a + 1) g (by simpa using hg) k hk
     exact ⟨by omega, this.2⟩
theorem TC {l : List FT} : NM l = true ↔ ∀ j, 1 ≤ j → j ≤ l.length - 1 → cntK l (j : Int) = 1 := by
 simp only [NM, List.all_eq_true, List.mem_range, decide_eq_true_eq]
 constructor
 · intro h j h1 h2
   have := h (j - 1) (by omega)
   rw [show (((j - 1 : Nat) : Int) + 1) = (j : Int) by omega] at this
   exact this
 · intro h j hj
   have := h (j + 1) (by omega) (by omega)
   simpa using this
def G5 (l : List FT) (j : Int) : Option Nat := if cntK l j = 1 then l.findIdx? fun f => f.kids.contains j else none
theorem Li {l : List FT} {j : Int} (h : cntK l j = 1) : ∃ i f, G5 l j = some i ∧ l[i]? = some f ∧ j ∈ f.kids := by
 have hm : j ∈ flatK l := by
  rw [← List.count_pos_iff]
  unfold cntK at h
  omega
 unfold flatK at hm
 rw [List.mem_flatten] at hm
 obtain ⟨ks, hks, hj⟩ := hm
 obtain ⟨f, hf, rfl⟩ := List.mem_map.1 hks
 unfold G5
 rw [if_pos h]
 cases hi : l.findIdx? fun f => f.kids.contains j with
 | none =>
   rw [List.findIdx?_eq_none_iff] at hi
   have := hi f hf
   simp [hj] at this
 | some i =>
   rw [List.findIdx?_eq_some_iff_getElem] at hi
   obtain ⟨h1, h2, _⟩ := hi
   exact ⟨i, l[i], rfl, List.getElem?_eq_getElem h1, by simpa using h2⟩
theorem PD {l : List FT} {i : Nat} {f : FT} (h : l[i]? = some f) {k : Int} (hk : k ∈ f.kids) : k ∈ flatK l := by
 unfold flatK
 rw [List.mem_flatten]
 exact ⟨f.kids, List.mem_map.2 ⟨f, List.mem_of_getElem? h, rfl⟩, hk⟩
theorem Rb {l : List FT} {i i' : Nat} {f f' : FT} (hii : i ≠ i') (h : l[i]? = some f) (h' : l[i']? = some f') {k : Int} (hk : k ∈ f.kids) (hk' : k ∈ f'.kids) : 2 ≤ cntK l k := by
 have key : ∀ {l : List FT} {i i' : Nat} {f f' : FT}, i < i' → l[i]? = some f → l[i']? = some f' → k ∈ f.kids → k ∈ f'.kids → 2 ≤ cntK l k := by
  intro l
  induction l with
  | nil => intro i i' f f' _ h; simp at h
  | cons a l ih =>
    intro i i' f f' hlt h h' hk hk'
    have hc : cntK (a :: l) k = a.kids.count k + cntK l k := by simp [cntK, flatK, List.count_append]
    cases i' with
    | zero => omega
    | succ i' =>
      cases i with
      | zero =>
        simp only [List.getElem?_cons_zero, Option.some.injEq] at h
        subst h
        have h1 := List.count_pos_iff.2 hk
        have h2 : 0 < cntK l k := List.count_pos_iff.2 (PD (by simpa using h') hk')
        omega
      | succ i =>
        have := ih (i := i) (i' := i') (by omega) (by simpa using h) (by simpa using h') hk hk'
        omega
 rcases Nat.lt_or_ge i i' with hlt | hge
 · exact key hlt h h' hk hk'
 · exact key (by omega) h' h hk' hk
theorem PE {l : List FT} {j : Int} (h : cntK l j = 1) {i : Nat} {f : FT} (hf : l[i]? = some f) (hj : j ∈ f.kids) : G5 l j = some i := by
 obtain ⟨i', f', h1, h2, h3⟩ := Li h
 by_cases hii : i = i'
 · rw [h1, hii]
 · have := Rb hii hf h2 hj h3
   omega
def upB (l : List FT) : Bool := (List.range (l.length - 1)).all fun j => match G5 l ((j : Int) + 1) with
 | some n => decide (n < j + 1)
 | none => false
theorem Tw {l : List FT} : upB l = true ↔ ∀ j, 1 ≤ j → j ≤ l.length - 1 → ∃ n, G5 l (j : Int) = some n ∧ n < j := by
 simp only [upB, List.all_eq_true, List.mem_range]
 constructor
 · intro h j h1 h2
   have := h (j - 1) (by omega)
   rw [show (((j - 1 : Nat) : Int) + 1) = (j : Int) by omega] at this
   cases ha : G5 l (j : Int) with
   | none => rw [ha] at this; cases this
   | some n => rw [ha] at this; exact ⟨n, rfl, by have := of_decide_eq_true this; omega⟩
 · intro h j hj
   obtain ⟨n, h1, h2⟩ := h (j + 1) (by omega) (by omega)
   rw [show ((j : Int) + 1) = ((j + 1 : Nat) : Int) by omega, h1]
   simp only [decide_eq_true_eq]
   omega
theorem VV (l : List FT) (hl : l ≠ []) : (G4 l.length 0 l && NM l) = (decide ((flatK l).length = l.length - 1) && upB l) := by
 have hpos := List.length_pos_iff.2 hl
 rw [Bool.eq_iff_iff]
 simp only [Bool.and_eq_true, decide_eq_true_eq, HT, TC, Tw]
 constructor
 · rintro ⟨hb, ho⟩
   have hr : ∀ x ∈ flatK l, 1 ≤ x ∧ x ≤ ((l.length - 1 : Nat) : Int) := by
    intro x hx
    unfold flatK at hx
    rw [List.mem_flatten] at hx
    obtain ⟨ks, hks, hj⟩ := hx
    obtain ⟨f, hf, rfl⟩ := List.mem_map.1 hks
    obtain ⟨i, hi, he⟩ := List.mem_iff_getElem.1 hf
    have := hb i f (by rw [List.getElem?_eq_getElem hi, he]) x hj
    omega
   refine ⟨N7 ho hr, fun j h1 h2 => ?_⟩
   obtain ⟨i, f, k1, k2, k3⟩ := Li (ho j h1 h2)
   have := hb i f k2 _ k3
   exact ⟨i, k1, by omega⟩
 · rintro ⟨ht, hu⟩
   have ho : ∀ j, 1 ≤ j → j ≤ l.length - 1 → cntK l (j : Int) = 1 := by
    intro j h1 h2
    obtain ⟨n, k1, _⟩ := hu j h1 h2
    unfold G5 at k1
    split at k1
    · assumption
    · cases k1
   refine ⟨fun a f hf k hk => ?_, ho⟩
   have hr := Pt ho ht k (PD hf hk)
   obtain ⟨j, rfl⟩ : ∃ j : Nat, k = (j : Int) := ⟨k.toNat, by omega⟩
   have h1 : 1 ≤ j := by omega
   have h2 : j ≤ l.length - 1 := by omega
   obtain ⟨n, k1, k2⟩ := hu j h1 h2
   have := PE (ho j h1 h2) hf hk
   rw [k1] at this
   cases this
   omega
end Go.Proofs.YtbfgoopcnkeblaaGreat

/-
  Iterators over the pieces of a text.
-/
set_option maxRecDepth 100000
namespace Go.Proofs.YtbfgoopcnkeblaaGreat
open Go.Proofs.YtbfgoopcnkeblaaGreat.Am
def segs : List Nat → List Nat → List (List Nat)
 | cur, [] => [cur]
 | cur, c :: l => if c = 47 then cur :: segs [] l else segs (cur ++ [c]) l
def splitL (l : List Nat) : List (List Nat) := segs [] l
end Go.Proofs.YtbfgoopcnkeblaaGreat

/-
  Steps of a path: the iterator.
-/
set_option maxRecDepth 100000
namespace Go.Proofs.YtbfgoopcnkeblaaGreat
open Go.Proofs.YtbfgoopcnkeblaaGreat.Am
def stepOk (x : List Nat) : Bool := decide (x ≠ []) && decide (x ≠ [46])
def cnt (l : List Nat) (j : Nat) : Nat := (((splitL l).take j).filter stepOk).length
end Go.Proofs.YtbfgoopcnkeblaaGreat

/-
  Steps and Clean.
-/
set_option maxRecDepth 100000
namespace Go.Proofs.YtbfgoopcnkeblaaGreat
open Go.Proofs.YtbfgoopcnkeblaaGreat.Am
/-! ### Clean -/
end Go.Proofs.YtbfgoopcnkeblaaGreat

/-
  Steps.
-/
set_option maxRecDepth 100000
namespace Go.Proofs.YtbfgoopcnkeblaaGreat
open Go.Proofs.YtbfgoopcnkeblaaGreat.Am
end Go.Proofs.YtbfgoopcnkeblaaGreat

/-
  The document's functions of layer 6.
-/
set_option maxRecDepth 100000
namespace Go.Proofs.YtbfgoopcnkeblaaGreat
open Go.Proofs.YtbfgoopcnkeblaaGreat.Am
theorem Vd (l : List Nat) : anyK l = false ↔ ∀ (i : Nat) (h : i < l.length), l[i] ≠ 0 ∧ l[i] ≠ 47 ∧ l[i] ≠ 10 := by
 constructor
 · intro h i hi
   unfold anyK at h
   rw [List.any_eq_false] at h
   have := h l[i] (List.getElem_mem hi)
   simp only [List.mem_cons, List.not_mem_nil, or_false, decide_eq_true_eq, not_or] at this
   exact ⟨this.2.1, this.1, this.2.2⟩
 · intro h
   refine JI fun i hi => ?_
   obtain ⟨h1, h2, h3⟩ := h i hi
   simp [h1, h2, h3]
theorem Ll (l : List Nat) (hl : l.length < 2 ^ 63) (s : St) : (lim prog).call CL [.s l] s = some (.b (Db l), s) := by
 refine fn_W GS rfl rfl ?_
 have hk : ∀ b, b = Db l → KR s [CT.id] (.b (Db l)) (some ([.b b], s.enter)) := fun b hb => AO (Over.enter s) rfl (by rw [hb]; rfl)
 by_cases h1 : l = []
 · have h1' : (l = []) = True := by simp [h1]
   simp only [Az, go_sem, Ap, AK, AJ, AL, Al, KB_n, KB_x, Nat.reduceBEq, Nat.reduceAdd, Nat.reduceLT, Nat.reduceLeDiff, Nat.reduceEqDiff, reduceIte, Int.reduceEq, reduceCtorEq, h1']
   exact hk _ (by simp [Db, h1])
 have h1' : (l = []) = False := by simp [h1]
 by_cases h2 : (64 : Int) < (l.length : Int)
 · simp only [Az, go_sem, Ap, AK, AJ, AL, Al, KB_n, KB_x, Nat.reduceBEq, Nat.reduceAdd, Nat.reduceLT, Nat.reduceLeDiff, Nat.reduceEqDiff, reduceIte, Int.reduceEq, reduceCtorEq, h1', Ax, h2]
   exact hk _ (by have : ¬ l.length ≤ 64 := by omega
                  simp [Db, this])
 by_cases h3 : l = [46]
 · have h3' : (l = [46]) = True := by simp [h3]
   simp only [Az, go_sem, Ap, AK, AJ, AL, Al, KB_n, KB_x, Nat.reduceBEq, Nat.reduceAdd, Nat.reduceLT, Nat.reduceLeDiff, Nat.reduceEqDiff, reduceIte, Int.reduceEq, reduceCtorEq, h1', Ax, h2, h3']
   exact hk _ (by simp [Db, h3])
 have h3' : (l = [46]) = False := by simp [h3]
 by_cases h4 : l = [46, 46]
 · have h4' : (l = [46, 46]) = True := by simp [h4]
   simp only [Az, go_sem, Ap, AK, AJ, AL, Al, KB_n, KB_x, Nat.reduceBEq, Nat.reduceAdd, Nat.reduceLT, Nat.reduceLeDiff, Nat.reduceEqDiff, reduceIte, Int.reduceEq, reduceCtorEq, h1', Ax, h2, h3', h4']
   exact hk _ (by simp [Db, h4])
 have h4' : (l = [46, 46]) = False := by simp [h4]
 have hle : l.length ≤ 64 := by omega
 have hN : Db l = !anyK l := by simp [Db, h1, h3, h4, hle]
 simp only [Az, go_sem, Ap, AK, AJ, AL, Al, KB_n, KB_x, Nat.reduceBEq, Nat.reduceAdd, Nat.reduceLT, Nat.reduceLeDiff, Nat.reduceEqDiff, reduceIte, Int.reduceEq, reduceCtorEq, h1', Ax, h2, h3', h4']
 refine Ba (fun n e q => s.enter = q ∧ e.get 0 = .s l ∧ ∃ i : Nat, i + n = l.length ∧ e.get 3 = .i .i64 i ∧ ∀ (j : Nat) (h : j < l.length), j < i → l[j] ≠ 0 ∧ l[j] ≠ 47 ∧ l[j] ≠ 10) ?_ l.length _ _ ?_
 · rintro n e q ⟨rfl, g0, i, hi, g3, hno⟩
   simp only [go_sem, Ap, AK, AJ, AL, Al, KB_n, KB_x, Nat.reduceBEq, Nat.reduceAdd, Nat.reduceLT, Nat.reduceLeDiff, Nat.reduceEqDiff, reduceIte, Int.reduceEq, reduceCtorEq, g0, g3, Ax]
   refine PB (fun hlt => ?_) (fun hge => ?_)
   · have hlt : i < l.length := by omega
     have hget : l[i]? = some l[i] := List.getElem?_eq_getElem hlt
     obtain ⟨c, hc⟩ : ∃ c, l[i] = c := ⟨_, rfl⟩
     rw [hc] at hget
     have hbad : c ∈ K3 → Db l = false := fun hm => by rw [hN, OF hlt (by rw [hc]; exact hm)]; rfl
     by_cases c0 : c = 0
     · have c0' : ((c : Int) = 0) = True := by simp [c0]
       simp only [go_sem, Ap, AK, AJ, AL, Al, KB_n, KB_x, Nat.reduceBEq, Nat.reduceAdd, Nat.reduceLT, Nat.reduceLeDiff, Nat.reduceEqDiff, reduceIte, Int.reduceEq, reduceCtorEq, g0, g3, G7, hget, Ax, c0']
       exact hk _ (hbad (by simp [c0])).symm
     have c0' : ((c : Int) = 0) = False := by simp; omega
     by_cases c1 : c = 47
     · have c1' : ((c : Int) = 47) = True := by simp; omega
       simp only [go_sem, Ap, AK, AJ, AL, Al, KB_n, KB_x, Nat.reduceBEq, Nat.reduceAdd, Nat.reduceLT, Nat.reduceLeDiff, Nat.reduceEqDiff, reduceIte, Int.reduceEq, reduceCtorEq, g0, g3, G7, hget, Ax, c0', c1']
       exact hk _ (hbad (by simp [c1])).symm
     have c1' : ((c : Int) = 47) = False := by simp; omega
     by_cases c2 : c = 10
     · have c2' : ((c : Int) = 10) = True := by simp; omega
       simp only [go_sem, Ap, AK, AJ, AL, Al, KB_n, KB_x, Nat.reduceBEq, Nat.reduceAdd, Nat.reduceLT, Nat.reduceLeDiff, Nat.reduceEqDiff, reduceIte, Int.reduceEq, reduceCtorEq, g0, g3, G7, hget, Ax, c0', c1', c2']
       exact hk _ (hbad (by simp [c2])).symm
     have c2' : ((c : Int) = 10) = False := by simp; omega
     simp only [go_sem, Ap, AK, AJ, AL, Al, KB_n, KB_x, Nat.reduceBEq, Nat.reduceAdd, Nat.reduceLT, Nat.reduceLeDiff, Nat.reduceEqDiff, reduceIte, Int.reduceEq, reduceCtorEq, g0, g3, G7, hget, Ax, c0', c1', c2', Af (show i + 1 < 2 ^ 63 by omega)]
     refine ⟨n - 1, by omega, i + 1, by omega, rfl, fun j hj hji => ?_⟩
     by_cases hje : j = i
     · subst hje; rw [hc]; exact ⟨c0, c1, c2⟩
     · exact hno j hj (by omega)
   · exact hk _ (by rw [hN, (Vd l).2 fun i hi => hno i hi (by omega)]; rfl)
 · simp only [go_sem, Ap, AK, AJ, AL, Al, KB_n, KB_x, Nat.reduceBEq, Nat.reduceAdd, Nat.reduceLT, Nat.reduceLeDiff, Nat.reduceEqDiff, reduceIte, Int.reduceEq, reduceCtorEq]
   exact ⟨0, by omega, rfl, fun j hj h => by omega⟩
end Go.Proofs.YtbfgoopcnkeblaaGreat

/-
  Facts as values; pat.dir, pat.one and the document's.
-/
set_option maxRecDepth 100000
set_option maxHeartbeats 2000000
namespace Go.Proofs.YtbfgoopcnkeblaaGreat
open Go.Proofs.YtbfgoopcnkeblaaGreat.Am
attribute [local irreducible] W WO WE WQ WD Tr.get Tr.set
def zx (L : List Int) : AV := .ws false 1 (L.map iv)
def FT.cells (f : FT) : List AV := [.b f.known, .i .u8 (f.kind : Nat), tx f.names, zx f.kids, .i .i64 f.rest, .i .i64 f.beside]
def FT.av (f : FT) : AV := .agg f.cells
def fx (l : List FT) : AV := .ws false 6 (l.map FT.av)
structure FT.Ok (f : FT) : Prop where
 kind : f.kind < 256
 names : ∀ l ∈ f.names, Txt l ∧ l.length < 2 ^ 62
 nlen : f.names.length < 2 ^ 34
 klen : f.kids.length < 2 ^ 34
def FT.isDir (f : FT) : Bool := f.known && decide (f.kind = 2)
def ascN : Option (List Nat) → List (List Nat) → Bool
 | _, [] => true
 | p, s :: ns => Db s && ((match p with | none => true | some q => ltN q s) && ascN (some s) ns)
theorem Kn : ∀ (p : Option (List Nat)) (ns : List (List Nat)) (s : List Nat),
    ascN p (ns ++ [s]) = (ascN p ns && (Db s && (match ns.getLast?.or p with | none => true | some q => ltN q s)))
 | p, [], s => by
   simp only [List.nil_append, ascN, Bool.and_true, Bool.true_and, List.getLast?_nil, Option.none_or]
 | p, a :: ns, s => by
   simp only [List.cons_append, ascN, Kn (some a) ns s, Bool.and_assoc]
   have : (a :: ns).getLast?.or p = (ns.getLast?.or (some a)) := by
    cases ns with
    | nil => rfl
    | cons c ns =>
      cases hns : (c :: ns).getLast? with
      | none => simp at hns
      | some v => rw [List.getLast?_cons_cons, hns]; rfl
   rw [this]
theorem Ko : ∀ (p : Option (List Nat)) (ns : List (List Nat)) (i : Nat), ascN p ns = true → ascN p (ns.take i) = true
 | _, _, 0, _ => by simp [ascN]
 | _, [], i + 1, _ => by simp [ascN]
 | p, s :: ns, i + 1, h => by
   simp only [List.take_succ_cons, ascN, Bool.and_eq_true] at h ⊢
   exact ⟨h.1, h.2.1, Ko (some s) ns i h.2.2⟩
def FT.restB (f : FT) : Bool := if f.rest = 2 then decide (0 ≤ f.beside) && decide (f.beside ≤ (f.names.length : Int)) else (decide (f.rest = 0) || decide (f.rest = 1)) && decide (f.beside = 0)
def FT.bad (f : FT) : Bool := decide (3 < f.kind) || ((!f.known && decide (f.kind ≠ 0)) || decide (f.names.length ≠ f.kids.length))
def FT.one (f : FT) : Bool := !f.bad && (if f.isDir then ascN none f.names && f.restB else decide (f.names.length = 0) && (decide (f.rest = 0) && decide (f.beside = 0)))
theorem Dn (f : FT) : f.cells.length = 6 := rfl
theorem NN {l : List FT} {i : Nat} {f : FT} (h : l[i]? = some f) : (l.map FT.av)[i]? = some (.agg f.cells) := by
 rw [List.getElem?_map, h]; rfl
theorem EQ (f : FT) (s : St) : ldA s true 6 (.ep f.cells 0 .shut) = some (.agg f.cells) := rfl
theorem Bh (f : FT) (s : St) : pubL s f.cells = some (f.cells, s) := rfl
theorem Tx (f : FT) (s : St) (hw : Wf s) : (lim prog).call Ie [.agg f.cells] s = some (.b f.isDir, s) := by
 refine fn_W RV rfl rfl ?_
 have H1 := (Hp.begin hw).new (.cells 26 f.cells)
 generalize hq : s.enter.new (.cells 26 f.cells) = q at H1
 generalize hm : s.enter.nb = m at H1
 have l0 := H1.ld 0 (off := 0) (v := .b f.known) rfl rfl
 have l1 := H1.ld 0 (off := 1) (v := .i .u8 (f.kind : Nat)) rfl rfl
 have hz0 : wkZ Ez.cin [.agg f.cells] = [.agg f.cells] := by simp [Ez, wkZ, wk, FT.cells, zx]
 rw [hz0]
 have hbr : ∀ b, KR s [.id] (.b b) (some ([.b b], q)) := fun b => AO H1.over rfl rfl
 have e1 : ((f.kind : Int) = 2) = (f.kind = 2) := by simp only [eq_iff_iff]; omega
 unfold FT.isDir
 cases hk : f.known
 · rw [hk] at l0
   simp only [Ez, go_sem, AD, AA, AC, AB, KB_n, KB_x, Nat.reduceBEq, Nat.reduceAdd, Nat.reduceLT, Nat.reduceLeDiff, Nat.reduceEqDiff, reduceIte, Int.reduceEq, reduceCtorEq, Dn, hq, hm, l0, l1, Nat.zero_add, e1, Bool.false_and]
   exact hbr _
 · rw [hk] at l0
   simp only [Ez, go_sem, AD, AA, AC, AB, KB_n, KB_x, Nat.reduceBEq, Nat.reduceAdd, Nat.reduceLT, Nat.reduceLeDiff, Nat.reduceEqDiff, reduceIte, Int.reduceEq, reduceCtorEq, Dn, hq, hm, l0, l1, Nat.zero_add, e1, Bool.true_and]
   exact hbr _
theorem Kp (f : FT) (s : St) (hw : Wf s) : (lim prog).call CY [.agg f.cells] s = some (.b f.isDir, s) := by
 refine fn_W G0 rfl rfl ?_
 have H1 := (Hp.begin hw).new (.cells 26 f.cells)
 generalize hq : s.enter.new (.cells 26 f.cells) = q at H1
 generalize hm : s.enter.nb = m at H1
 have l0 := H1.ld 0 (off := 0) (v := .b f.known) rfl rfl
 have l1 := H1.ld 0 (off := 1) (v := .i .u8 (f.kind : Nat)) rfl rfl
 have hz0 : wkZ BJ.cin [.agg f.cells] = [.agg f.cells] := by simp [BJ, wkZ, wk, FT.cells, zx]
 rw [hz0]
 have hbr : ∀ b, KR s [.id] (.b b) (some ([.b b], q)) := fun b => AO H1.over rfl rfl
 have e1 : ((f.kind : Int) = 2) = (f.kind = 2) := by simp only [eq_iff_iff]; omega
 unfold FT.isDir
 cases hk : f.known
 · rw [hk] at l0
   simp only [BJ, go_sem, AD, AA, AC, AB, KB_n, KB_x, Nat.reduceBEq, Nat.reduceAdd, Nat.reduceLT, Nat.reduceLeDiff, Nat.reduceEqDiff, reduceIte, Int.reduceEq, reduceCtorEq, Dn, hq, hm, l0, l1, Nat.zero_add, e1, Bool.false_and]
   exact hbr _
 · rw [hk] at l0
   simp only [BJ, go_sem, AD, AA, AC, AB, KB_n, KB_x, Nat.reduceBEq, Nat.reduceAdd, Nat.reduceLT, Nat.reduceLeDiff, Nat.reduceEqDiff, reduceIte, Int.reduceEq, reduceCtorEq, Dn, hq, hm, l0, l1, Nat.zero_add, e1, Bool.true_and]
   exact hbr _
end Go.Proofs.YtbfgoopcnkeblaaGreat

/-
  pat.one.
-/
set_option maxRecDepth 100000
set_option maxHeartbeats 4000000
namespace Go.Proofs.YtbfgoopcnkeblaaGreat
open Go.Proofs.YtbfgoopcnkeblaaGreat.Am
attribute [local irreducible] W WO WE WQ WD Tr.get Tr.set
theorem Ij {L : List (List Nat)} {i : Nat} {y : List Nat} (h : L[i]? = some y) : (L.take (i + 1)).getLast? = some y := by
 rw [List.take_add_one, h]
 simp
theorem PF (a b : Bool) : (if (false = true) then a else b) = b := rfl
theorem PG (a b : Bool) : (if (true = true) then a else b) = a := rfl
theorem one_ok (f : FT) (ho : f.Ok) (s : St) (hw : Wf s) : (lim prog).call Ki [.agg f.cells] s = some (.b f.one, s) := by
 refine fn_W RX rfl rfl ?_
 have H1 := (Hp.begin hw).new (.cells 26 f.cells)
 generalize hq : s.enter.new (.cells 26 f.cells) = q at H1
 generalize hm : s.enter.nb = m at H1
 have l0 := H1.ld 0 (off := 0) (v := .b f.known) rfl rfl
 have l1 := H1.ld 0 (off := 1) (v := .i .u8 (f.kind : Nat)) rfl rfl
 have l2 := H1.ld 0 (off := 2) (v := tx f.names) rfl rfl
 have l3 := H1.ld 0 (off := 3) (v := zx f.kids) rfl rfl
 have l4 := H1.ld 0 (off := 4) (v := .i .i64 f.rest) rfl rfl
 have l5 := H1.ld 0 (off := 5) (v := .i .i64 f.beside) rfl rfl
 have lw := H1.ldw (m := 6) 0 rfl rfl
 have hz0 : wkZ Cm.cin [.agg f.cells] = [.agg f.cells] := by simp [Cm, wkZ, wk, FT.cells, zx]
 rw [hz0]
 have hbr : ∀ b, KR s [.id] (.b b) (some ([.b b], q)) := fun b => AO H1.over rfl rfl
 have hd := Tx f q H1.wf
 unfold FT.one
 cases hb : f.bad
 · have hnb : ¬ (3 < f.kind) ∧ ((!f.known && decide (f.kind ≠ 0)) = false) ∧ f.names.length = f.kids.length := by
    unfold FT.bad at hb
    simp only [Bool.or_eq_false_iff, decide_eq_false_iff_not, Decidable.not_not] at hb
    exact ⟨hb.1, hb.2.1, by simpa using hb.2.2⟩
   obtain ⟨a1, a2, a3⟩ := hnb
   have e1 : ((3 : Int) < (f.kind : Int)) = False := by simp only [eq_iff_iff, iff_false]; omega
   have e3 : ((f.names.length : Int) ≠ (f.kids.length : Int)) = False := by simp only [ne_eq, eq_iff_iff, iff_false]; omega
   have hx : ∃ kn : Bool, f.known = kn ∧ ((kn = false ∧ ((f.kind : Int) ≠ 0) = False) ∨ (kn = true ∧ (True = True))) := by
    cases hk : f.known
    · rw [hk] at a2
      exact ⟨_, rfl, .inl ⟨rfl, by simpa using a2⟩⟩
    · exact ⟨_, rfl, .inr ⟨rfl, rfl⟩⟩
   obtain ⟨kn, hk, hx⟩ := hx
   rw [hk] at l0
   rw [Bool.not_false, Bool.true_and]
   cases hi : f.isDir
   · rw [hi] at hd
     rw [PF]
     by_cases d1 : f.names.length = 0
     · have r1 : (((f.names.length : Nat) : Int) = 0) = True := by simp [d1]
       by_cases d2 : f.rest = 0
       · have r2 : (f.rest = 0) = True := by simp [d2]
         rw [decide_eq_true d1, decide_eq_true d2, Bool.true_and, Bool.true_and]
         rcases hx with ⟨rfl, e2⟩ | ⟨rfl, e2⟩ <;> simp only [Cm, go_sem, AD, AA, AC, AB, KB_n, KB_x, Nat.reduceBEq, Nat.reduceAdd, Nat.reduceLT, Nat.reduceLeDiff, Nat.reduceEqDiff, reduceIte, Int.reduceEq, reduceCtorEq, Dn, hq, hm, l0, l1, l2, l3, l4, l5, lw, hd, zx, Nat.zero_add, e1, e2, List.length_map, e3, r1, r2, Bh] <;> exact hbr _
       · have r2 : (f.rest = 0) = False := by simp [d2]
         rw [decide_eq_true d1, decide_eq_false d2, Bool.false_and, Bool.and_false]
         rcases hx with ⟨rfl, e2⟩ | ⟨rfl, e2⟩ <;> simp only [Cm, go_sem, AD, AA, AC, AB, KB_n, KB_x, Nat.reduceBEq, Nat.reduceAdd, Nat.reduceLT, Nat.reduceLeDiff, Nat.reduceEqDiff, reduceIte, Int.reduceEq, reduceCtorEq, Dn, hq, hm, l0, l1, l2, l3, l4, l5, lw, hd, zx, Nat.zero_add, e1, e2, List.length_map, e3, r1, r2, Bh] <;> exact hbr _
     · have r1 : (((f.names.length : Nat) : Int) = 0) = False := by simp only [eq_iff_iff, iff_false]; omega
       rw [decide_eq_false d1, Bool.false_and]
       rcases hx with ⟨rfl, e2⟩ | ⟨rfl, e2⟩ <;> simp only [Cm, go_sem, AD, AA, AC, AB, KB_n, KB_x, Nat.reduceBEq, Nat.reduceAdd, Nat.reduceLT, Nat.reduceLeDiff, Nat.reduceEqDiff, reduceIte, Int.reduceEq, reduceCtorEq, Dn, hq, hm, l0, l1, l2, l3, l4, l5, lw, hd, zx, Nat.zero_add, e1, e2, List.length_map, e3, r1, Bh] <;> exact hbr _
   · rw [hi] at hd
     rw [PG]
     have hkt : kn = true := by
      unfold FT.isDir at hi
      rw [hk] at hi
      cases kn
      · cases hi
      · rfl
     subst hkt
     have hnl := ho.nlen
     simp only [Cm, go_sem, AD, AA, AC, AB, KB_n, KB_x, Nat.reduceBEq, Nat.reduceAdd, Nat.reduceLT, Nat.reduceLeDiff, Nat.reduceEqDiff, reduceIte, Int.reduceEq, reduceCtorEq, Dn, hq, hm, l0, l1, l2, l3, l4, l5, lw, hd, zx, Nat.zero_add, e1, List.length_map, e3, Bh]
     refine Ba (fun x e q' => ∃ i : Nat, i + x = f.names.length ∧ q' = q ∧ ascN none (f.names.take i) = true ∧ e.get 1 = .p m 0 ∧ e.get 47 = tx f.names ∧ e.get 48 = .i .i64 (f.names.length : Nat) ∧ e.get 49 = .i .i64 (i : Nat)) ?_ f.names.length _ _ ?_
     · rintro x e q' ⟨i, hix, rfl, hac, g1, g47, g48, g49⟩
       by_cases h : i < f.names.length
       · have h1 : ((i : Int) < (f.names.length : Int)) = True := by simp only [eq_iff_iff, iff_true]; omega
         obtain ⟨y, hy⟩ : ∃ y, f.names[i]? = some y := ⟨_, List.getElem?_eq_getElem h⟩
         have hy2 : (f.names.map AV.s)[i]? = some (.s y) := by rw [List.getElem?_map, hy]; rfl
         have hym : y ∈ f.names := List.mem_of_getElem? hy
         have hnm := OH y (ho.names y hym).1 q' H1.wf
         have hw1 := Af (show i + 1 < 2 ^ 63 by omega)
         have htk : f.names.take (i + 1) = f.names.take i ++ [y] := by rw [List.take_add_one, hy]; rfl
         have hsn := Kn none (f.names.take i) y
         rw [← htk, hac, Bool.true_and] at hsn
         have hno : ascN none (f.names.take (i + 1)) = false → ascN none f.names = false := fun hf => by
          rw [Bool.eq_false_iff]
          intro ht
          rw [Ko none f.names (i + 1) ht] at hf
          cases hf
         cases hn1 : Db y with
         | false =>
           rw [hn1] at hnm hsn
           rw [hno hsn, Bool.false_and]
           simp only [go_sem, AD, AA, AC, AB, KB_n, KB_x, Nat.reduceBEq, Nat.reduceAdd, Nat.reduceLT, Nat.reduceLeDiff, Nat.reduceEqDiff, reduceIte, Int.reduceEq, reduceCtorEq, g1, g47, g48, g49, h1, AI, hy2, BD, Cf, hnm]
           exact hbr _
         | true =>
           rw [hn1] at hnm hsn
           cases i with
           | zero =>
             have h2 : ((0 : Int) < ((0 : Nat) : Int)) = False := by simp
             have hsn : ascN none (f.names.take (0 + 1)) = true := by rw [hsn]; simp
             simp only [go_sem, AD, AA, AC, AB, KB_n, KB_x, Nat.reduceBEq, Nat.reduceAdd, Nat.reduceLT, Nat.reduceLeDiff, Nat.reduceEqDiff, reduceIte, Int.reduceEq, reduceCtorEq, g1, g47, g48, g49, h1, AI, hy2, BD, Cf, hnm, h2, hw1]
             exact ⟨x - 1, by omega, 0 + 1, by omega, hsn, rfl⟩
           | succ i =>
             have h2 : ((0 : Int) < ((i + 1 : Nat) : Int)) = True := by simp only [eq_iff_iff, iff_true]; omega
             obtain ⟨z, hz⟩ : ∃ z, f.names[i]? = some z := ⟨_, List.getElem?_eq_getElem (by omega)⟩
             have hz2 : (f.names.map AV.s)[i]? = some (.s z) := by rw [List.getElem?_map, hz]; rfl
             have hsb : IntKind.i64.wrap (((i + 1 : Nat) : Int) - 1) = (i : Int) := by
              rw [show ((i + 1 : Nat) : Int) - 1 = (i : Int) by omega]; exact CA (by omega)
             rw [Ij hz] at hsn
             have hsn : ascN none (f.names.take (i + 1 + 1)) = ltN z y := by rw [hsn]; simp
             have hle : (ltN y z || beqN y z) = !ltN z y := Fb y z
             cases hzy : ltN z y with
             | false =>
               rw [hzy] at hle hsn
               rw [hno hsn, Bool.false_and]
               simp only [go_sem, AD, AA, AC, AB, KB_n, KB_x, Nat.reduceBEq, Nat.reduceAdd, Nat.reduceLT, Nat.reduceLeDiff, Nat.reduceEqDiff, reduceIte, Int.reduceEq, reduceCtorEq, g1, g47, g48, g49, h1, AI, hy2, BD, Cf, hnm, h2, l2, hsb, hz2, Fa, hle, Nat.zero_add]
               exact hbr _
             | true =>
               rw [hzy] at hle hsn
               simp only [go_sem, AD, AA, AC, AB, KB_n, KB_x, Nat.reduceBEq, Nat.reduceAdd, Nat.reduceLT, Nat.reduceLeDiff, Nat.reduceEqDiff, reduceIte, Int.reduceEq, reduceCtorEq, g1, g47, g48, g49, h1, AI, hy2, BD, Cf, hnm, h2, l2, hsb, hz2, Fa, hle, Nat.zero_add, hw1]
               exact ⟨x - 1, by omega, i + 1 + 1, by omega, hsn, rfl⟩
       · have h1 : ((i : Int) < (f.names.length : Int)) = False := by simp only [eq_iff_iff, iff_false]; omega
         rw [List.take_of_length_le (by omega)] at hac
         rw [hac, Bool.true_and]
         unfold FT.restB
         by_cases d1 : f.rest = 2
         · have r1 : (f.rest = 2) = True := by simp [d1]
           rw [if_pos d1]
           by_cases d2 : 0 ≤ f.beside
           · have r2 : ((0 : Int) ≤ f.beside) = True := by simp [d2]
             rw [decide_eq_true d2, Bool.true_and]
             simp only [go_sem, AD, AA, AC, AB, KB_n, KB_x, Nat.reduceBEq, Nat.reduceAdd, Nat.reduceLT, Nat.reduceLeDiff, Nat.reduceEqDiff, reduceIte, Int.reduceEq, reduceCtorEq, g1, g47, g48, g49, h1, l2, l4, l5, List.length_map, Nat.zero_add, r1, r2]
             exact hbr _
           · have r2 : ((0 : Int) ≤ f.beside) = False := by simp [d2]
             rw [decide_eq_false d2, Bool.false_and]
             simp only [go_sem, AD, AA, AC, AB, KB_n, KB_x, Nat.reduceBEq, Nat.reduceAdd, Nat.reduceLT, Nat.reduceLeDiff, Nat.reduceEqDiff, reduceIte, Int.reduceEq, reduceCtorEq, g1, g47, g48, g49, h1, l2, l4, l5, List.length_map, Nat.zero_add, r1, r2]
             exact hbr _
         · have r1 : (f.rest = 2) = False := by simp [d1]
           rw [if_neg d1]
           by_cases d3 : f.rest = 0
           · have r3 : (f.rest = 0) = True := by simp [d3]
             rw [decide_eq_true d3, Bool.true_or, Bool.true_and]
             simp only [go_sem, AD, AA, AC, AB, KB_n, KB_x, Nat.reduceBEq, Nat.reduceAdd, Nat.reduceLT, Nat.reduceLeDiff, Nat.reduceEqDiff, reduceIte, Int.reduceEq, reduceCtorEq, g1, g47, g48, g49, h1, l2, l4, l5, List.length_map, Nat.zero_add, r1, r3]
             exact hbr _
           · have r3 : (f.rest = 0) = False := by simp [d3]
             rw [decide_eq_false d3, Bool.false_or]
             by_cases d4 : f.rest = 1
             · have r4 : (f.rest = 1) = True := by simp [d4]
               rw [decide_eq_true d4, Bool.true_and]
               simp only [go_sem, AD, AA, AC, AB, KB_n, KB_x, Nat.reduceBEq, Nat.reduceAdd, Nat.reduceLT, Nat.reduceLeDiff, Nat.reduceEqDiff, reduceIte, Int.reduceEq, reduceCtorEq, g1, g47, g48, g49, h1, l2, l4, l5, List.length_map, Nat.zero_add, r1, r3, r4]
               exact hbr _
             · have r4 : (f.rest = 1) = False := by simp [d4]
               rw [decide_eq_false d4, Bool.false_and]
               simp only [go_sem, AD, AA, AC, AB, KB_n, KB_x, Nat.reduceBEq, Nat.reduceAdd, Nat.reduceLT, Nat.reduceLeDiff, Nat.reduceEqDiff, reduceIte, Int.reduceEq, reduceCtorEq, g1, g47, g48, g49, h1, l2, l4, l5, List.length_map, Nat.zero_add, r1, r3, r4]
               exact hbr _
     · simp only [go_sem, AD, AA, AC, AB, KB_n, KB_x, Nat.reduceBEq, Nat.reduceAdd, Nat.reduceLT, Nat.reduceLeDiff, Nat.reduceEqDiff, reduceIte, Int.reduceEq, reduceCtorEq]
       exact ⟨0, by omega, by simp [ascN], rfl⟩
 · have hkn : f.names.length = (f.names.map AV.s).length := by simp
   unfold FT.bad at hb
   by_cases a1 : 3 < f.kind
   · have e1 : ((3 : Int) < (f.kind : Int)) = True := by simp only [eq_iff_iff, iff_true]; omega
     simp only [Cm, go_sem, AD, AA, AC, AB, KB_n, KB_x, Nat.reduceBEq, Nat.reduceAdd, Nat.reduceLT, Nat.reduceLeDiff, Nat.reduceEqDiff, reduceIte, Int.reduceEq, reduceCtorEq, Dn, hq, hm, l0, l1, l2, l3, l4, l5, Nat.zero_add, e1, Bool.not_true, Bool.false_and]
     exact hbr _
   · have e1 : ((3 : Int) < (f.kind : Int)) = False := by simp only [eq_iff_iff, iff_false]; omega
     rw [decide_eq_false a1, Bool.false_or] at hb
     cases hk : f.known
     · rw [hk] at l0 hb
       by_cases a2 : f.kind = 0
       · have e2 : ((f.kind : Int) ≠ 0) = False := by simp [a2]
         have hb : f.names.length ≠ f.kids.length := by simpa [a2] using hb
         have e3 : ((f.names.length : Int) ≠ (f.kids.length : Int)) = True := by simp only [ne_eq, eq_iff_iff, iff_true]; omega
         simp only [Cm, go_sem, AD, AA, AC, AB, KB_n, KB_x, Nat.reduceBEq, Nat.reduceAdd, Nat.reduceLT, Nat.reduceLeDiff, Nat.reduceEqDiff, reduceIte, Int.reduceEq, reduceCtorEq, Dn, hq, hm, l0, l1, l2, l3, l4, l5, zx, Nat.zero_add, e1, e2, List.length_map, e3, Bool.not_true, Bool.false_and]
         exact hbr _
       · have e2 : ((f.kind : Int) ≠ 0) = True := by simp [a2]
         simp only [Cm, go_sem, AD, AA, AC, AB, KB_n, KB_x, Nat.reduceBEq, Nat.reduceAdd, Nat.reduceLT, Nat.reduceLeDiff, Nat.reduceEqDiff, reduceIte, Int.reduceEq, reduceCtorEq, Dn, hq, hm, l0, l1, l2, l3, l4, l5, Nat.zero_add, e1, e2, Bool.not_true, Bool.false_and]
         exact hbr _
     · rw [hk] at l0 hb
       have hb : f.names.length ≠ f.kids.length := by simpa using hb
       have e3 : ((f.names.length : Int) ≠ (f.kids.length : Int)) = True := by simp only [ne_eq, eq_iff_iff, iff_true]; omega
       simp only [Cm, go_sem, AD, AA, AC, AB, KB_n, KB_x, Nat.reduceBEq, Nat.reduceAdd, Nat.reduceLT, Nat.reduceLeDiff, Nat.reduceEqDiff, reduceIte, Int.reduceEq, reduceCtorEq, Dn, hq, hm, l0, l1, l2, l3, l4, l5, zx, Nat.zero_add, e1, List.length_map, e3, Bool.not_true, Bool.false_and]
       exact hbr _
end Go.Proofs.YtbfgoopcnkeblaaGreat

/-
  The document's one.
-/
set_option maxRecDepth 100000
set_option maxHeartbeats 4000000
namespace Go.Proofs.YtbfgoopcnkeblaaGreat
open Go.Proofs.YtbfgoopcnkeblaaGreat.Am
attribute [local irreducible] W WO WE WQ WD Tr.get Tr.set
theorem N8 (f : FT) (ho : f.Ok) (s : St) (hw : Wf s) : (lim prog).call DK [.agg f.cells] s = some (.b f.one, s) := by
 refine fn_W G1 rfl rfl ?_
 have H1 := (Hp.begin hw).new (.cells 26 f.cells)
 generalize hq : s.enter.new (.cells 26 f.cells) = q at H1
 generalize hm : s.enter.nb = m at H1
 have l0 := H1.ld 0 (off := 0) (v := .b f.known) rfl rfl
 have l1 := H1.ld 0 (off := 1) (v := .i .u8 (f.kind : Nat)) rfl rfl
 have l2 := H1.ld 0 (off := 2) (v := tx f.names) rfl rfl
 have l3 := H1.ld 0 (off := 3) (v := zx f.kids) rfl rfl
 have l4 := H1.ld 0 (off := 4) (v := .i .i64 f.rest) rfl rfl
 have l5 := H1.ld 0 (off := 5) (v := .i .i64 f.beside) rfl rfl
 have lw := H1.ldw (m := 6) 0 rfl rfl
 have hz0 : wkZ AY.cin [.agg f.cells] = [.agg f.cells] := by simp [AY, wkZ, wk, FT.cells, zx]
 rw [hz0]
 have hbr : ∀ b, KR s [.id] (.b b) (some ([.b b], q)) := fun b => AO H1.over rfl rfl
 have hd := Kp f q H1.wf
 unfold FT.one
 cases hb : f.bad
 · have hnb : ¬ (3 < f.kind) ∧ ((!f.known && decide (f.kind ≠ 0)) = false) ∧ f.names.length = f.kids.length := by
    unfold FT.bad at hb
    simp only [Bool.or_eq_false_iff, decide_eq_false_iff_not, Decidable.not_not] at hb
    exact ⟨hb.1, hb.2.1, by simpa using hb.2.2⟩
   obtain ⟨a1, a2, a3⟩ := hnb
   have e1 : ((3 : Int) < (f.kind : Int)) = False := by simp only [eq_iff_iff, iff_false]; omega
   have e3 : ((f.names.length : Int) ≠ (f.kids.length : Int)) = False := by simp only [ne_eq, eq_iff_iff, iff_false]; omega
   have hx : ∃ kn : Bool, f.known = kn ∧ ((kn = false ∧ ((f.kind : Int) ≠ 0) = False) ∨ (kn = true ∧ (True = True))) := by
    cases hk : f.known
    · rw [hk] at a2
      exact ⟨_, rfl, .inl ⟨rfl, by simpa using a2⟩⟩
    · exact ⟨_, rfl, .inr ⟨rfl, rfl⟩⟩
   obtain ⟨kn, hk, hx⟩ := hx
   rw [hk] at l0
   rw [Bool.not_false, Bool.true_and]
   cases hi : f.isDir
   · rw [hi] at hd
     rw [PF]
     by_cases d1 : f.names.length = 0
     · have r1 : (((f.names.length : Nat) : Int) = 0) = True := by simp [d1]
       by_cases d2 : f.rest = 0
       · have r2 : (f.rest = 0) = True := by simp [d2]
         rw [decide_eq_true d1, decide_eq_true d2, Bool.true_and, Bool.true_and]
         rcases hx with ⟨rfl, e2⟩ | ⟨rfl, e2⟩ <;> simp only [AY, go_sem, AD, AA, AC, AB, KB_n, KB_x, Nat.reduceBEq, Nat.reduceAdd, Nat.reduceLT, Nat.reduceLeDiff, Nat.reduceEqDiff, reduceIte, Int.reduceEq, reduceCtorEq, Dn, hq, hm, l0, l1, l2, l3, l4, l5, lw, hd, zx, Nat.zero_add, e1, e2, List.length_map, e3, r1, r2, Bh] <;> exact hbr _
       · have r2 : (f.rest = 0) = False := by simp [d2]
         rw [decide_eq_true d1, decide_eq_false d2, Bool.false_and, Bool.and_false]
         rcases hx with ⟨rfl, e2⟩ | ⟨rfl, e2⟩ <;> simp only [AY, go_sem, AD, AA, AC, AB, KB_n, KB_x, Nat.reduceBEq, Nat.reduceAdd, Nat.reduceLT, Nat.reduceLeDiff, Nat.reduceEqDiff, reduceIte, Int.reduceEq, reduceCtorEq, Dn, hq, hm, l0, l1, l2, l3, l4, l5, lw, hd, zx, Nat.zero_add, e1, e2, List.length_map, e3, r1, r2, Bh] <;> exact hbr _
     · have r1 : (((f.names.length : Nat) : Int) = 0) = False := by simp only [eq_iff_iff, iff_false]; omega
       rw [decide_eq_false d1, Bool.false_and]
       rcases hx with ⟨rfl, e2⟩ | ⟨rfl, e2⟩ <;> simp only [AY, go_sem, AD, AA, AC, AB, KB_n, KB_x, Nat.reduceBEq, Nat.reduceAdd, Nat.reduceLT, Nat.reduceLeDiff, Nat.reduceEqDiff, reduceIte, Int.reduceEq, reduceCtorEq, Dn, hq, hm, l0, l1, l2, l3, l4, l5, lw, hd, zx, Nat.zero_add, e1, e2, List.length_map, e3, r1, Bh] <;> exact hbr _
   · rw [hi] at hd
     rw [PG]
     have hkt : kn = true := by
      unfold FT.isDir at hi
      rw [hk] at hi
      cases kn
      · cases hi
      · rfl
     subst hkt
     have hnl := ho.nlen
     simp only [AY, go_sem, AD, AA, AC, AB, KB_n, KB_x, Nat.reduceBEq, Nat.reduceAdd, Nat.reduceLT, Nat.reduceLeDiff, Nat.reduceEqDiff, reduceIte, Int.reduceEq, reduceCtorEq, Dn, hq, hm, l0, l1, l2, l3, l4, l5, lw, hd, zx, Nat.zero_add, e1, List.length_map, e3, Bh]
     refine Ba (fun x e q' => ∃ i : Nat, i + x = f.names.length ∧ q' = q ∧ ascN none (f.names.take i) = true ∧ e.get 1 = .p m 0 ∧ e.get 3 = .i .i64 (i : Nat)) ?_ f.names.length _ _ ?_
     · rintro x e q' ⟨i, hix, rfl, hac, g1, g3⟩
       by_cases h : i < f.names.length
       · have h1 : ((i : Int) < (f.names.length : Int)) = True := by simp only [eq_iff_iff, iff_true]; omega
         obtain ⟨y, hy⟩ : ∃ y, f.names[i]? = some y := ⟨_, List.getElem?_eq_getElem h⟩
         have hy2 : (f.names.map AV.s)[i]? = some (.s y) := by rw [List.getElem?_map, hy]; rfl
         have hym : y ∈ f.names := List.mem_of_getElem? hy
         have hnm := Ll y (by have := (ho.names y hym).2; omega) q'
         have hw1 := Af (show i + 1 < 2 ^ 63 by omega)
         have htk : f.names.take (i + 1) = f.names.take i ++ [y] := by rw [List.take_add_one, hy]; rfl
         have hsn := Kn none (f.names.take i) y
         rw [← htk, hac, Bool.true_and] at hsn
         have hno : ascN none (f.names.take (i + 1)) = false → ascN none f.names = false := fun hf => by
          rw [Bool.eq_false_iff]
          intro ht
          rw [Ko none f.names (i + 1) ht] at hf
          cases hf
         cases hn1 : Db y with
         | false =>
           rw [hn1] at hnm hsn
           rw [hno hsn, Bool.false_and]
           simp only [go_sem, AD, AA, AC, AB, KB_n, KB_x, Nat.reduceBEq, Nat.reduceAdd, Nat.reduceLT, Nat.reduceLeDiff, Nat.reduceEqDiff, reduceIte, Int.reduceEq, reduceCtorEq, g1, g3, l2, List.length_map, Nat.zero_add, h1, AI, hy2, BD, Cf, hnm]
           exact hbr _
         | true =>
           rw [hn1] at hnm hsn
           cases i with
           | zero =>
             have h2 : ((0 : Int) < ((0 : Nat) : Int)) = False := by simp
             have hsn : ascN none (f.names.take (0 + 1)) = true := by rw [hsn]; simp
             simp only [go_sem, AD, AA, AC, AB, KB_n, KB_x, Nat.reduceBEq, Nat.reduceAdd, Nat.reduceLT, Nat.reduceLeDiff, Nat.reduceEqDiff, reduceIte, Int.reduceEq, reduceCtorEq, g1, g3, l2, List.length_map, Nat.zero_add, h1, AI, hy2, BD, Cf, hnm, h2, hw1]
             exact ⟨x - 1, by omega, 0 + 1, by omega, hsn, rfl⟩
           | succ i =>
             have h2 : ((0 : Int) < ((i + 1 : Nat) : Int)) = True := by simp only [eq_iff_iff, iff_true]; omega
             obtain ⟨z, hz⟩ : ∃ z, f.names[i]? = some z := ⟨_, List.getElem?_eq_getElem (by omega)⟩
             have hz2 : (f.names.map AV.s)[i]? = some (.s z) := by rw [List.getElem?_map, hz]; rfl
             have hsb : IntKind.i64.wrap (((i + 1 : Nat) : Int) - 1) = (i : Int) := by
              rw [show ((i + 1 : Nat) : Int) - 1 = (i : Int) by omega]; exact CA (by omega)
             rw [Ij hz] at hsn
             have hsn : ascN none (f.names.take (i + 1 + 1)) = ltN z y := by rw [hsn]; simp
             have hle : (ltN y z || beqN y z) = !ltN z y := Fb y z
             cases hzy : ltN z y with
             | false =>
               rw [hzy] at hle hsn
               rw [hno hsn, Bool.false_and]
               simp only [go_sem, AD, AA, AC, AB, KB_n, KB_x, Nat.reduceBEq, Nat.reduceAdd, Nat.reduceLT, Nat.reduceLeDiff, Nat.reduceEqDiff, reduceIte, Int.reduceEq, reduceCtorEq, g1, g3, l2, List.length_map, Nat.zero_add, h1, AI, hy2, BD, Cf, hnm, h2, hsb, hz2, Fa, hle, Nat.zero_add]
               exact hbr _
             | true =>
               rw [hzy] at hle hsn
               simp only [go_sem, AD, AA, AC, AB, KB_n, KB_x, Nat.reduceBEq, Nat.reduceAdd, Nat.reduceLT, Nat.reduceLeDiff, Nat.reduceEqDiff, reduceIte, Int.reduceEq, reduceCtorEq, g1, g3, l2, List.length_map, Nat.zero_add, h1, AI, hy2, BD, Cf, hnm, h2, hsb, hz2, Fa, hle, Nat.zero_add, hw1]
               exact ⟨x - 1, by omega, i + 1 + 1, by omega, hsn, rfl⟩
       · have h1 : ((i : Int) < (f.names.length : Int)) = False := by simp only [eq_iff_iff, iff_false]; omega
         rw [List.take_of_length_le (by omega)] at hac
         rw [hac, Bool.true_and]
         unfold FT.restB
         by_cases d1 : f.rest = 2
         · have r1 : (f.rest = 2) = True := by simp [d1]
           rw [if_pos d1]
           by_cases d2 : 0 ≤ f.beside
           · have r2 : ((0 : Int) ≤ f.beside) = True := by simp [d2]
             rw [decide_eq_true d2, Bool.true_and]
             simp only [go_sem, AD, AA, AC, AB, KB_n, KB_x, Nat.reduceBEq, Nat.reduceAdd, Nat.reduceLT, Nat.reduceLeDiff, Nat.reduceEqDiff, reduceIte, Int.reduceEq, reduceCtorEq, g1, g3, h1, l2, l4, l5, List.length_map, Nat.zero_add, r1, r2]
             exact hbr _
           · have r2 : ((0 : Int) ≤ f.beside) = False := by simp [d2]
             rw [decide_eq_false d2, Bool.false_and]
             simp only [go_sem, AD, AA, AC, AB, KB_n, KB_x, Nat.reduceBEq, Nat.reduceAdd, Nat.reduceLT, Nat.reduceLeDiff, Nat.reduceEqDiff, reduceIte, Int.reduceEq, reduceCtorEq, g1, g3, h1, l2, l4, l5, List.length_map, Nat.zero_add, r1, r2]
             exact hbr _
         · have r1 : (f.rest = 2) = False := by simp [d1]
           rw [if_neg d1]
           by_cases d3 : f.rest = 0
           · have r3 : (f.rest = 0) = True := by simp [d3]
             rw [decide_eq_true d3, Bool.true_or, Bool.true_and]
             simp only [go_sem, AD, AA, AC, AB, KB_n, KB_x, Nat.reduceBEq, Nat.reduceAdd, Nat.reduceLT, Nat.reduceLeDiff, Nat.reduceEqDiff, reduceIte, Int.reduceEq, reduceCtorEq, g1, g3, h1, l2, l4, l5, List.length_map, Nat.zero_add, r1, r3]
             exact hbr _
           · have r3 : (f.rest = 0) = False := by simp [d3]
             rw [decide_eq_false d3, Bool.false_or]
             by_cases d4 : f.rest = 1
             · have r4 : (f.rest = 1) = True := by simp [d4]
               rw [decide_eq_true d4, Bool.true_and]
               simp only [go_sem, AD, AA, AC, AB, KB_n, KB_x, Nat.reduceBEq, Nat.reduceAdd, Nat.reduceLT, Nat.reduceLeDiff, Nat.reduceEqDiff, reduceIte, Int.reduceEq, reduceCtorEq, g1, g3, h1, l2, l4, l5, List.length_map, Nat.zero_add, r1, r3, r4]
               exact hbr _
             · have r4 : (f.rest = 1) = False := by simp [d4]
               rw [decide_eq_false d4, Bool.false_and]
               simp only [go_sem, AD, AA, AC, AB, KB_n, KB_x, Nat.reduceBEq, Nat.reduceAdd, Nat.reduceLT, Nat.reduceLeDiff, Nat.reduceEqDiff, reduceIte, Int.reduceEq, reduceCtorEq, g1, g3, h1, l2, l4, l5, List.length_map, Nat.zero_add, r1, r3, r4]
               exact hbr _
     · simp only [go_sem, AD, AA, AC, AB, KB_n, KB_x, Nat.reduceBEq, Nat.reduceAdd, Nat.reduceLT, Nat.reduceLeDiff, Nat.reduceEqDiff, reduceIte, Int.reduceEq, reduceCtorEq]
       exact ⟨0, by omega, by simp [ascN], rfl⟩
 · have hkn : f.names.length = (f.names.map AV.s).length := by simp
   unfold FT.bad at hb
   by_cases a1 : 3 < f.kind
   · have e1 : ((3 : Int) < (f.kind : Int)) = True := by simp only [eq_iff_iff, iff_true]; omega
     simp only [AY, go_sem, AD, AA, AC, AB, KB_n, KB_x, Nat.reduceBEq, Nat.reduceAdd, Nat.reduceLT, Nat.reduceLeDiff, Nat.reduceEqDiff, reduceIte, Int.reduceEq, reduceCtorEq, Dn, hq, hm, l0, l1, l2, l3, l4, l5, Nat.zero_add, e1, Bool.not_true, Bool.false_and]
     exact hbr _
   · have e1 : ((3 : Int) < (f.kind : Int)) = False := by simp only [eq_iff_iff, iff_false]; omega
     rw [decide_eq_false a1, Bool.false_or] at hb
     cases hk : f.known
     · rw [hk] at l0 hb
       by_cases a2 : f.kind = 0
       · have e2 : ((f.kind : Int) ≠ 0) = False := by simp [a2]
         have hb : f.names.length ≠ f.kids.length := by simpa [a2] using hb
         have e3 : ((f.names.length : Int) ≠ (f.kids.length : Int)) = True := by simp only [ne_eq, eq_iff_iff, iff_true]; omega
         simp only [AY, go_sem, AD, AA, AC, AB, KB_n, KB_x, Nat.reduceBEq, Nat.reduceAdd, Nat.reduceLT, Nat.reduceLeDiff, Nat.reduceEqDiff, reduceIte, Int.reduceEq, reduceCtorEq, Dn, hq, hm, l0, l1, l2, l3, l4, l5, zx, Nat.zero_add, e1, e2, List.length_map, e3, Bool.not_true, Bool.false_and]
         exact hbr _
       · have e2 : ((f.kind : Int) ≠ 0) = True := by simp [a2]
         simp only [AY, go_sem, AD, AA, AC, AB, KB_n, KB_x, Nat.reduceBEq, Nat.reduceAdd, Nat.reduceLT, Nat.reduceLeDiff, Nat.reduceEqDiff, reduceIte, Int.reduceEq, reduceCtorEq, Dn, hq, hm, l0, l1, l2, l3, l4, l5, Nat.zero_add, e1, e2, Bool.not_true, Bool.false_and]
         exact hbr _
     · rw [hk] at l0 hb
       have hb : f.names.length ≠ f.kids.length := by simpa using hb
       have e3 : ((f.names.length : Int) ≠ (f.kids.length : Int)) = True := by simp only [ne_eq, eq_iff_iff, iff_true]; omega
       simp only [AY, go_sem, AD, AA, AC, AB, KB_n, KB_x, Nat.reduceBEq, Nat.reduceAdd, Nat.reduceLT, Nat.reduceLeDiff, Nat.reduceEqDiff, reduceIte, Int.reduceEq, reduceCtorEq, Dn, hq, hm, l0, l1, l2, l3, l4, l5, zx, Nat.zero_add, e1, List.length_map, e3, Bool.not_true, Bool.false_and]
       exact hbr _
end Go.Proofs.YtbfgoopcnkeblaaGreat

/-
  slices.ContainsFunc of numbers: of a slice that was told, and of a part of a row.
-/
set_option maxRecDepth 100000
set_option maxHeartbeats 2000000
namespace Go.Proofs.YtbfgoopcnkeblaaGreat
open Go.Proofs.YtbfgoopcnkeblaaGreat.Am
attribute [local irreducible] W WO WE WQ WD Tr.get Tr.set
def N9 (P : Int → Bool) (L : List Int) : Int := match L.findIdx? P with
 | some i => (i : Int)
 | none => -1
theorem Rc (P : Int → Bool) (L : List Int) : (0 ≤ N9 P L) = (L.any P = true) := by
 unfold N9
 cases h : L.findIdx? P with
 | none =>
   rw [List.findIdx?_eq_none_iff] at h
   simp only [eq_iff_iff, List.any_eq_true]
   constructor
   · intro hh; simp at hh
   · rintro ⟨x, hx, hp⟩; rw [h x hx] at hp; cases hp
 | some i =>
   rw [List.findIdx?_eq_some_iff_getElem] at h
   obtain ⟨h1, h2, _⟩ := h
   simp only [eq_iff_iff, List.any_eq_true]
   exact ⟨fun _ => ⟨L[i], List.getElem_mem h1, h2⟩, fun _ => by omega⟩
theorem TE {P : Int → Bool} {L : List Int} {i : Nat} {z : Int} (h : L[i]? = some z) (hz : P z = true) (hb : ∀ j, j < i → ∀ y, L[j]? = some y → P y = false) : N9 P L = (i : Int) := by
 have : L.findIdx? P = some i := by
  rw [List.findIdx?_eq_some_iff_getElem]
  obtain ⟨h1, h2⟩ := List.getElem?_eq_some_iff.1 h
  refine ⟨h1, by rw [h2]; exact hz, fun j hj => ?_⟩
  rw [hb j hj L[j] (List.getElem?_eq_getElem (by omega))]
  simp
 unfold N9
 rw [this]
theorem TF {P : Int → Bool} {L : List Int} (hb : ∀ j, j < L.length → ∀ y, L[j]? = some y → P y = false) : N9 P L = -1 := by
 have : L.findIdx? P = none := by
  rw [List.findIdx?_eq_none_iff]
  intro x hx
  obtain ⟨j, hj, rfl⟩ := List.mem_iff_getElem.1 hx
  exact hb j hj _ (List.getElem?_eq_getElem hj)
 unfold N9
 rw [this]
theorem Ty {L : List Int} {i : Nat} {z : Int} (h : L[i]? = some z) : (L.map iv)[i]? = some (.i .i64 z) := by
 rw [List.getElem?_map, h]; rfl
theorem HU (z : Int) : (AV.i .i64 z).cells = [.i .i64 z] := rfl
theorem TG {s q : St} (h : Over s q) {id : Nat} (hid : id < s.nb) : q.box? id = s.box? id := by
 have h1 := h.nb
 have e1 : Nat.blt id q.nb = true := by rw [Nat.blt_eq]; omega
 have e2 : Nat.blt id s.nb = true := by rw [Nat.blt_eq]; exact hid
 simp only [St.box?, e1, e2, cond_true, ← h.boxes, List.getElem?_drop]
 congr 1
 omega
theorem VW {s q : St} (h : Over s q) {id T off : Nat} {cs : List AV} {v : AV} (hid : id < s.nb) (hb : s.box? id = some (.cells T cs)) (hc : cs[off]? = some v) : ldA q false 1 (.p id off) = some v :=
 O4 (by rw [TG h hid]; exact hb) hc
theorem MP (L : List Int) (hL : L.length < 2 ^ 62) (g : Nat) (caps : List AV) (P : Int → Bool) (s : St) (hw : Wf s) {id off T : Nat} {p : Nat × Bool} {cs : List AV} (hid : id < s.nb) (hbx : s.box? id = some (.cells T cs)) (hcs : ∀ i z, L[i]? = some z → cs[off + i]? = some (.i .i64 z)) (hP : ∀ z ∈ L, Er (lim prog) (.fn g caps) [.i .i64 z] s.enter = some (.b (P z), s.enter)) :
    (lim prog).call CU [AV.bl id 1 off L.length p, .fn g caps] s = some (.i .i64 (N9 P L), s) := by
 refine fn_W E7 rfl rfl ?_
 have hz0 : wkZ A9.cin [AV.bl id 1 off L.length p, .fn g caps] = [AV.bl id 1 off L.length p, .fn g caps] := by simp [A9, wkZ, wk]
 rw [hz0]
 simp only [A9, go_sem, AD, AA, AC, AB, KB_n, KB_x, Nat.reduceBEq, Nat.reduceAdd, Nat.reduceLT, Nat.reduceLeDiff, Nat.reduceEqDiff, reduceIte, Int.reduceEq, reduceCtorEq]
 refine Ba (fun x e q => ∃ i : Nat, i + x = L.length ∧ q = s.enter ∧ (∀ j, j < i → ∀ y, L[j]? = some y → P y = false) ∧ e.get 0 = AV.bl id 1 off L.length p ∧ e.get 1 = .fn g caps ∧ e.get 7 = .i .i64 (L.length : Nat) ∧ e.get 8 = .i .i64 (i : Nat)) ?_ L.length _ _ ?_
 · rintro x e q ⟨i, hi, rfl, hb, g0, g1, g7, g8⟩
   by_cases h : i < L.length
   · have h1 : ((i : Int) < (L.length : Int)) = True := by simp only [eq_iff_iff, iff_true]; omega
     obtain ⟨z, hz⟩ : ∃ z, L[i]? = some z := ⟨_, List.getElem?_eq_getElem h⟩
     have hz2 := VW (Over.enter s) (off := off + i) (v := .i .i64 z) hid hbx (hcs i z hz)
     have hlt : (i < L.length) = True := by simp [h]
     have hc := hP z (List.mem_of_getElem? hz)
     have hw1 := Af (show i + 1 < 2 ^ 63 by omega)
     cases hp : P z with
     | true =>
       rw [hp] at hc
       rw [TE hz hp hb]
       simp only [go_sem, AD, AA, AC, AB, KB_n, KB_x, Nat.reduceBEq, Nat.reduceAdd, Nat.reduceLT, Nat.reduceLeDiff, Nat.reduceEqDiff, reduceIte, Int.reduceEq, reduceCtorEq, g0, g1, g7, g8, h1, AI, hlt, Nat.mul_one, hz2, hc]
       exact AO (Over.enter s) rfl rfl
     | false =>
       rw [hp] at hc
       simp only [go_sem, AD, AA, AC, AB, KB_n, KB_x, Nat.reduceBEq, Nat.reduceAdd, Nat.reduceLT, Nat.reduceLeDiff, Nat.reduceEqDiff, reduceIte, Int.reduceEq, reduceCtorEq, g0, g1, g7, g8, h1, AI, hlt, Nat.mul_one, hz2, hc, hw1]
       refine ⟨x - 1, by omega, i + 1, by omega, fun j hj y hy => ?_, rfl⟩
       rcases Nat.lt_or_ge j i with hlt | hge
       · exact hb j hlt y hy
       · obtain rfl : j = i := by omega
         rw [hz] at hy; cases hy; exact hp
   · have h1 : ((i : Int) < (L.length : Int)) = False := by simp only [eq_iff_iff, iff_false]; omega
     rw [TF fun j hj => hb j (by omega)]
     simp only [go_sem, AD, AA, AC, AB, KB_n, KB_x, Nat.reduceBEq, Nat.reduceAdd, Nat.reduceLT, Nat.reduceLeDiff, Nat.reduceEqDiff, reduceIte, Int.reduceEq, reduceCtorEq, g0, g1, g7, g8, h1]
     exact AO (Over.enter s) rfl rfl
 · simp only [go_sem, AD, AA, AC, AB, KB_n, KB_x, Nat.reduceBEq, Nat.reduceAdd, Nat.reduceLT, Nat.reduceLeDiff, Nat.reduceEqDiff, reduceIte, Int.reduceEq, reduceCtorEq]
   exact ⟨0, by omega, fun j hj => by omega, rfl⟩
theorem Je (L : List Int) (hL : L.length < 2 ^ 62) (g : Nat) (caps : List AV) (P : Int → Bool) (s : St) (hw : Wf s) {id off T : Nat} {p : Nat × Bool} {cs : List AV} (hid : id < s.nb) (hbx : s.box? id = some (.cells T cs)) (hcs : ∀ i z, L[i]? = some z → cs[off + i]? = some (.i .i64 z)) (hP : ∀ z ∈ L, Er (lim prog) (.fn g caps) [.i .i64 z] s.enter = some (.b (P z), s.enter)) :
    (lim prog).call Bz [AV.bl id 1 off L.length p, .fn g caps] s = some (.b (L.any P), s) := by
 refine fn_W ES rfl rfl ?_
 have hz0 : wkZ Au.cin [AV.bl id 1 off L.length p, .fn g caps] = [AV.bl id 1 off L.length p, .fn g caps] := by simp [Au, wkZ, wk]
 have h1 := MP L hL g caps P s.enter hw.enter (p := p) hid hbx hcs hP
 rw [hz0]
 simp only [Au, go_sem, AD, AA, AC, AB, KB_n, KB_x, Nat.reduceBEq, Nat.reduceAdd, Nat.reduceLT, Nat.reduceLeDiff, Nat.reduceEqDiff, reduceIte, Int.reduceEq, reduceCtorEq, h1, Rc]
 exact AO (Over.enter s) rfl (by cases h : L.any P <;> rfl)
end Go.Proofs.YtbfgoopcnkeblaaGreat

/-
  slices.ContainsFunc of terms; ground.whole.
-/
set_option maxRecDepth 100000
set_option maxHeartbeats 2000000
namespace Go.Proofs.YtbfgoopcnkeblaaGreat
open Go.Proofs.YtbfgoopcnkeblaaGreat.Am
attribute [local irreducible] W WO WE WQ WD Tr.get Tr.set
def qx (L : List TD) : AV := .ws false 6 (L.map TD.av)
theorem Rp {L : List TD} {i : Nat} {k : TD} (h : L[i]? = some k) : (L.map TD.av)[i]? = some (.agg k.cells) := by
 rw [List.getElem?_map, h, Option.map_some, TD.av_eq]
def OL (P : TD → Bool) (L : List TD) : Int := match L.findIdx? P with
 | some i => (i : Int)
 | none => -1
theorem Rq (P : TD → Bool) (L : List TD) : (0 ≤ OL P L) = (L.any P = true) := by
 unfold OL
 cases h : L.findIdx? P with
 | none =>
   rw [List.findIdx?_eq_none_iff] at h
   simp only [eq_iff_iff, List.any_eq_true]
   constructor
   · intro hh; simp at hh
   · rintro ⟨x, hx, hp⟩; rw [h x hx] at hp; cases hp
 | some i =>
   rw [List.findIdx?_eq_some_iff_getElem] at h
   obtain ⟨h1, h2, _⟩ := h
   simp only [eq_iff_iff, List.any_eq_true]
   exact ⟨fun _ => ⟨L[i], List.getElem_mem h1, h2⟩, fun _ => by omega⟩
theorem TS {P : TD → Bool} {L : List TD} {i : Nat} {z : TD} (h : L[i]? = some z) (hz : P z = true) (hb : ∀ j, j < i → ∀ y, L[j]? = some y → P y = false) : OL P L = (i : Int) := by
 have : L.findIdx? P = some i := by
  rw [List.findIdx?_eq_some_iff_getElem]
  obtain ⟨h1, h2⟩ := List.getElem?_eq_some_iff.1 h
  refine ⟨h1, by rw [h2]; exact hz, fun j hj => ?_⟩
  rw [hb j hj L[j] (List.getElem?_eq_getElem (by omega))]
  simp
 unfold OL
 rw [this]
theorem TU {P : TD → Bool} {L : List TD} (hb : ∀ j, j < L.length → ∀ y, L[j]? = some y → P y = false) : OL P L = -1 := by
 have : L.findIdx? P = none := by
  rw [List.findIdx?_eq_none_iff]
  intro x hx
  obtain ⟨j, hj, rfl⟩ := List.mem_iff_getElem.1 hx
  exact hb j hj _ (List.getElem?_eq_getElem hj)
 unfold OL
 rw [this]
theorem MR (L : List TD) (hL : L.length < 2 ^ 62) (g : Nat) (caps : List AV) (P : TD → Bool) (s : St) (hw : Wf s) (hP : ∀ z ∈ L, Er (lim prog) (.fn g caps) [.agg z.cells] s.enter = some (.b (P z), s.enter)) :
    (lim prog).call BW [qx L, .fn g caps] s = some (.i .i64 (OL P L), s) := by
 refine fn_W Da rfl rfl ?_
 have hz0 : wkZ Ac.cin [qx L, .fn g caps] = [qx L, .fn g caps] := by simp [Ac, wkZ, wk, qx, qx]
 rw [hz0]
 simp only [Ac, go_sem, AD, AA, AC, AB, KB_n, KB_x, Nat.reduceBEq, Nat.reduceAdd, Nat.reduceLT, Nat.reduceLeDiff, Nat.reduceEqDiff, reduceIte, Int.reduceEq, reduceCtorEq, qx, List.length_map]
 refine Ba (fun x e q => ∃ i : Nat, i + x = L.length ∧ q = s.enter ∧ (∀ j, j < i → ∀ y, L[j]? = some y → P y = false) ∧ e.get 0 = qx L ∧ e.get 1 = .fn g caps ∧ e.get 7 = .i .i64 (L.length : Nat) ∧ e.get 8 = .i .i64 (i : Nat)) ?_ L.length _ _ ?_
 · rintro x e q ⟨i, hi, rfl, hb, g0, g1, g7, g8⟩
   by_cases h : i < L.length
   · have h1 : ((i : Int) < (L.length : Int)) = True := by simp only [eq_iff_iff, iff_true]; omega
     obtain ⟨z, hz⟩ : ∃ z, L[i]? = some z := ⟨_, List.getElem?_eq_getElem h⟩
     have hz2 := Rp hz
     have hc := hP z (List.mem_of_getElem? hz)
     have hw1 := Af (show i + 1 < 2 ^ 63 by omega)
     cases hp : P z with
     | true =>
       rw [hp] at hc
       rw [TS hz hp hb]
       simp only [go_sem, AD, AA, AC, AB, KB_n, KB_x, Nat.reduceBEq, Nat.reduceAdd, Nat.reduceLT, Nat.reduceLeDiff, Nat.reduceEqDiff, reduceIte, Int.reduceEq, reduceCtorEq, g0, g1, g7, g8, qx, h1, AI, hz2, Dl, C1, AR, hc]
       exact AO (Over.enter s) rfl rfl
     | false =>
       rw [hp] at hc
       simp only [go_sem, AD, AA, AC, AB, KB_n, KB_x, Nat.reduceBEq, Nat.reduceAdd, Nat.reduceLT, Nat.reduceLeDiff, Nat.reduceEqDiff, reduceIte, Int.reduceEq, reduceCtorEq, g0, g1, g7, g8, qx, h1, AI, hz2, Dl, C1, AR, hc, hw1]
       refine ⟨x - 1, by omega, i + 1, by omega, fun j hj y hy => ?_, rfl⟩
       rcases Nat.lt_or_ge j i with hlt | hge
       · exact hb j hlt y hy
       · obtain rfl : j = i := by omega
         rw [hz] at hy; cases hy; exact hp
   · have h1 : ((i : Int) < (L.length : Int)) = False := by simp only [eq_iff_iff, iff_false]; omega
     rw [TU fun j hj => hb j (by omega)]
     simp only [go_sem, AD, AA, AC, AB, KB_n, KB_x, Nat.reduceBEq, Nat.reduceAdd, Nat.reduceLT, Nat.reduceLeDiff, Nat.reduceEqDiff, reduceIte, Int.reduceEq, reduceCtorEq, g0, g1, g7, g8, h1]
     exact AO (Over.enter s) rfl rfl
 · simp only [go_sem, AD, AA, AC, AB, KB_n, KB_x, Nat.reduceBEq, Nat.reduceAdd, Nat.reduceLT, Nat.reduceLeDiff, Nat.reduceEqDiff, reduceIte, Int.reduceEq, reduceCtorEq]
   exact ⟨0, by omega, fun j hj => by omega, rfl, rfl⟩
theorem Jf (L : List TD) (hL : L.length < 2 ^ 62) (g : Nat) (caps : List AV) (P : TD → Bool) (s : St) (hw : Wf s) (hP : ∀ z ∈ L, Er (lim prog) (.fn g caps) [.agg z.cells] s.enter = some (.b (P z), s.enter)) :
    (lim prog).call BI [qx L, .fn g caps] s = some (.b (L.any P), s) := by
 refine fn_W DN rfl rfl ?_
 have hz0 : wkZ AX.cin [qx L, .fn g caps] = [qx L, .fn g caps] := by simp [AX, wkZ, wk, qx, qx]
 have h1 := MR L hL g caps P s.enter hw.enter hP
 rw [hz0]
 unfold qx at h1
 simp only [AX, go_sem, AD, AA, AC, AB, KB_n, KB_x, Nat.reduceBEq, Nat.reduceAdd, Nat.reduceLT, Nat.reduceLeDiff, Nat.reduceEqDiff, reduceIte, Int.reduceEq, reduceCtorEq, h1, qx, Rq]
 exact AO (Over.enter s) rfl (by cases h : L.any P <;> rfl)
theorem TV : ∀ n : TD, n.Ok → ∀ s, Wf s → (lim prog).call EH [.agg n.cells] s = some (.b (DC n), s) := by
 refine TD.ind fun n ih ho s hw => ?_
 refine fn_W LE rfl rfl ?_
 have H1 := (Hp.begin hw).new (.cells 34 n.cells)
 generalize hq : s.enter.new (.cells 34 n.cells) = q at H1
 generalize hm : s.enter.nb = m at H1
 have l0 := H1.ld 0 (off := 0) (v := .i .i64 n.ref) rfl rfl
 have l3 := H1.ld 0 (off := 3) (v := .i .i64 n.base) rfl rfl
 have l5 := H1.ld 0 (off := 5) (v := .ws false 6 (n.kids.map TD.av)) rfl rfl
 have hz0 : wkZ CD.cin [.agg n.cells] = [.agg n.cells] := by simp [CD, wkZ, wk, TD.cells]
 have hkl := ho.kids.2
 have hbr : ∀ b, KR s [.id] (.b b) (some ([.b b], q)) := fun b => AO H1.over rfl rfl
 have hcl : ∀ k ∈ n.kids, Er (lim prog) (.fn Cy []) [.agg k.cells] q.enter = some (.b (!DC k), q.enter) := by
  intro k hk
  show (lim prog).call Cy ([.agg k.cells] ++ []) q.enter = _
  refine fn_W Jd rfl rfl ?_
  have K1 := (Hp.begin H1.wf.enter).new (.cells 34 k.cells)
  generalize hu : q.enter.enter.new (.cells 34 k.cells) = u at K1
  generalize hv : q.enter.enter.nb = v at K1
  have lw := K1.ldw 0 (m := 6) rfl rfl
  have hc := ih k hk (ho.kids.1 k hk) u K1.wf
  have hz1 : wkZ CW.cin ([.agg k.cells] ++ []) = [.agg k.cells] := by simp [CW, wkZ, wk, TD.cells]
  rw [hz1]
  simp only [CW, go_sem, AD, AA, AC, AB, KB_n, KB_x, Nat.reduceBEq, Nat.reduceAdd, Nat.reduceLT, Nat.reduceLeDiff, Nat.reduceEqDiff, reduceIte, Int.reduceEq, reduceCtorEq, A4, hu, hv, lw, AR, hc]
  exact AO K1.over rfl rfl
 have hC := Jf n.kids (by omega) Cy [] (fun k => !DC k) q H1.wf hcl
 have hall : (n.kids.any fun k => !DC k) = !(n.kids.all DC) := by
  rw [List.not_all_eq_any_not]
 rw [hall] at hC; unfold qx at hC
 rw [hz0, Kt]
 by_cases c1 : n.ref = -1
 · by_cases c2 : n.base = -1
   · simp only [CD, go_sem, AD, AA, AC, AB, KB_n, KB_x, Nat.reduceBEq, Nat.reduceAdd, Nat.reduceLT, Nat.reduceLeDiff, Nat.reduceEqDiff, reduceIte, Int.reduceEq, reduceCtorEq, A4, hq, hm, l0, l3, l5, Nat.zero_add, c1, c2, hC, Bool.not_not]
     exact hbr _
   · simp only [CD, go_sem, AD, AA, AC, AB, KB_n, KB_x, Nat.reduceBEq, Nat.reduceAdd, Nat.reduceLT, Nat.reduceLeDiff, Nat.reduceEqDiff, reduceIte, Int.reduceEq, reduceCtorEq, A4, hq, hm, l0, l3, l5, Nat.zero_add, c1, decide_eq_false c2]
     exact hbr _
 · simp only [CD, go_sem, AD, AA, AC, AB, KB_n, KB_x, Nat.reduceBEq, Nat.reduceAdd, Nat.reduceLT, Nat.reduceLeDiff, Nat.reduceEqDiff, reduceIte, Int.reduceEq, reduceCtorEq, A4, hq, hm, l0, l3, l5, Nat.zero_add, decide_eq_false c1]
   exact hbr _
end Go.Proofs.YtbfgoopcnkeblaaGreat

/-
  pat.May.
-/
set_option maxRecDepth 100000
set_option maxHeartbeats 4000000
namespace Go.Proofs.YtbfgoopcnkeblaaGreat
open Go.Proofs.YtbfgoopcnkeblaaGreat.Am
attribute [local irreducible] W WO WE WQ WD Tr.get Tr.set
def cnts (n : Nat) (P : List Int) : List AV := (List.range n).map fun j => .i .i64 ((P.count ((j : Nat) : Int) : Nat) : Int)
theorem PH : ∀ n, repL n [.i .i64 0] = cnts n []
 | 0 => rfl
 | n + 1 => by
   have h1 : ∀ m, cnts m [] = List.replicate m (.i .i64 0) := fun m => by
    unfold cnts
    apply List.ext_getElem?
    intro j
    rw [List.getElem?_map, List.getElem?_replicate]
    by_cases hj : j < m
    · rw [List.getElem?_range hj, if_pos hj]; rfl
    · rw [List.getElem?_eq_none (by simpa using hj), if_neg hj]; rfl
   rw [repL, PH n, h1, h1]; rfl
theorem Js (n : Nat) (P : List Int) : (cnts n P).length = n := by simp [cnts]
theorem Ik {n j : Nat} {P : List Int} (h : j < n) : (cnts n P)[j]? = some (.i .i64 ((P.count (j : Int) : Nat) : Int)) := by
 unfold cnts
 rw [List.getElem?_map, List.getElem?_range h]; rfl
theorem TH {n k : Nat} {P : List Int} (h : k < n) : (cnts n P).set k (.i .i64 ((P.count (k : Int) + 1 : Nat) : Int)) = cnts n (P ++ [(k : Int)]) := by
 apply List.ext_getElem?
 intro j
 rw [List.getElem?_set]
 by_cases hj : k = j
 · subst hj
   rw [if_pos rfl, if_pos (by rw [Js]; exact h), Ik h]
   simp [List.count_append]
 · rw [if_neg hj]
   by_cases hjn : j < n
   · rw [Ik hjn, Ik hjn, List.count_append]
     have : List.count (j : Int) [(k : Int)] = 0 := by
      rw [List.count_eq_zero]
      simp only [List.mem_singleton]
      omega
     rw [this]; rfl
   · rw [List.getElem?_eq_none (by rw [Js]; omega), List.getElem?_eq_none (by rw [Js]; omega)]
def mayP (l : List FT) : Bool := match l with
 | [] => false
 | f :: t => f.isDir && ((f :: t).all FT.one && (G4 (f :: t).length 0 (f :: t) && NM (f :: t)))
def fine (n i : Nat) (f : FT) : Prop := f.one = true ∧ ∀ k ∈ f.kids, (i : Int) < k ∧ k < (n : Int)
theorem TI {f : FT} {t : List FT} {i : Nat} {x : FT} (h : (f :: t)[i]? = some x) (hf : ¬ fine (f :: t).length i x) : mayP (f :: t) = false := by
 rw [Bool.eq_false_iff]
 intro hm
 simp only [mayP, Bool.and_eq_true, List.all_eq_true, HT] at hm
 exact hf ⟨hm.2.1 x (List.mem_of_getElem? h), fun k hk => by have := hm.2.2.1 i x h k hk; simpa using this⟩
theorem TJ {f : FT} {t : List FT} (hd : f.isDir = true) (h : ∀ i x, (f :: t)[i]? = some x → fine (f :: t).length i x) : mayP (f :: t) = NM (f :: t) := by
 have h1 : (f :: t).all FT.one = true := by
  rw [List.all_eq_true]
  intro x hx
  obtain ⟨i, hi, rfl⟩ := List.mem_iff_getElem.1 hx
  exact (h i _ (List.getElem?_eq_getElem hi)).1
 have h2 : G4 (f :: t).length 0 (f :: t) = true := HT.2 fun a g hg k hk => by
  have := (h a g hg).2 k hk
  simpa using this
 simp only [mayP, hd, h1, h2, Bool.true_and]
theorem TK (l : List FT) (hl : 0 < l.length) : NM l = !((List.range (l.length - 1)).map fun j : Nat => ((cntK l ((j : Int) + 1) : Nat) : Int)).any fun z => decide (z ≠ 1) := by
 unfold NM
 rw [List.any_map, List.not_any_eq_all_not]
 congr 1
 funext j
 simp only [Function.comp]
 rw [Bool.eq_iff_iff]
 simp
 omega
theorem VX (z : Int) (s : St) : (lim prog).call F0 [.i .i64 z] s = some (.b (decide (z ≠ 1)), s) := by
 refine fn_W N6 rfl rfl ?_
 simp only [F3, go_sem, AD, AA, AC, AB, KB_n, KB_x, Nat.reduceBEq, Nat.reduceAdd, Nat.reduceLT, Nat.reduceLeDiff, Nat.reduceEqDiff, reduceIte, Int.reduceEq, reduceCtorEq]
 exact AO (Over.enter s) rfl rfl
theorem FZ {l : List FT} {i : Nat} {f : FT} (h : l[i]? = some f) : flatK (l.take (i + 1)) = flatK (l.take i) ++ f.kids := by
 unfold flatK
 rw [List.take_add_one, h]
 simp
end Go.Proofs.YtbfgoopcnkeblaaGreat

/-
  pat.May, second part: the walk.
-/
set_option maxRecDepth 100000
set_option maxHeartbeats 4000000
namespace Go.Proofs.YtbfgoopcnkeblaaGreat
open Go.Proofs.YtbfgoopcnkeblaaGreat.Am
attribute [local irreducible] W WO WE WQ WD Tr.get Tr.set
theorem PI (l : List FT) (i : Nat) : (flatK (l.take i)).length ≤ (flatK l).length := by
 have : flatK l = flatK (l.take i) ++ flatK (l.drop i) := by
  unfold flatK
  rw [← List.flatten_append, ← List.map_append, List.take_append_drop]
 rw [this, List.length_append]
 omega
theorem may_ok (l : List FT) (ho : ∀ f ∈ l, f.Ok) (hl : l.length < 2 ^ 34) (hB : (flatK l).length < 2 ^ 62) (s : St) (hw : Wf s) : (lim prog).call Gs [fx l] s = some (.b (mayP l), s) := by
 refine fn_W RU rfl rfl ?_
 have hz0 : wkZ EP.cin [fx l] = [fx l] := by
  simp only [EP, wkZ, fx, wk]
 rw [hz0]
 cases hl0 : l with
 | nil =>
   have r1 : (((List.map FT.av []).length : Int) = 0) = True := by simp
   simp only [EP, go_sem, AD, AA, AC, AB, KB_n, KB_x, Nat.reduceBEq, Nat.reduceAdd, Nat.reduceLT, Nat.reduceLeDiff, Nat.reduceEqDiff, reduceIte, Int.reduceEq, reduceCtorEq, fx, r1]
   exact AO (Over.enter s) rfl rfl
 | cons f t =>
   have hmay : mayP (f :: t) = mayP l := by rw [hl0]
   have hdef : f.isDir = false → mayP l = false := fun h => by rw [hl0, mayP, h]; rfl
   have hf0 : l[0]? = some f := by rw [hl0]; rfl
   have hpos : 0 < l.length := by rw [hl0]; simp
   rw [hmay, ← hl0]
   clear hmay
   have r1 : ((l.length : Int) = 0) = False := by simp only [eq_iff_iff, iff_false]; omega
   have hget := NN hf0
   have hd := Tx f s.enter hw.enter
   cases hi : f.isDir
   · rw [hi] at hd
     rw [hdef hi]
     simp only [EP, go_sem, AD, AA, AC, AB, KB_n, KB_x, Nat.reduceBEq, Nat.reduceAdd, Nat.reduceLT, Nat.reduceLeDiff, Nat.reduceEqDiff, reduceIte, Int.reduceEq, reduceCtorEq, fx, List.length_map, r1, NQ, hget, Dl, EQ, Bh, hd]
     exact AO (Over.enter s) rfl rfl
   · rw [hi] at hd
     have hmk : (0 ≤ (l.length : Int) ∧ (l.length : Int) ≤ (l.length : Int) ∧ (l.length : Int) * (1 : Nat) < 2 ^ 38 ∧ (l.length : Int) < 2 ^ 38) = True := by
      simp only [eq_iff_iff, iff_true]; omega
     simp only [EP, go_sem, AD, AA, AC, AB, KB_n, KB_x, Nat.reduceBEq, Nat.reduceAdd, Nat.reduceLT, Nat.reduceLeDiff, Nat.reduceEqDiff, reduceIte, Int.reduceEq, reduceCtorEq, fx, List.length_map, r1, NQ, hget, Dl, EQ, Bh, hd, hmk, Int.toNat_natCast, PH, Nat.mul_one]
     have H0 := (Hp.begin hw).new (.cells 3 (cnts l.length []))
     generalize hq0 : s.enter.new (.cells 3 (cnts l.length [])) = q0 at H0
     generalize hm : s.enter.nb = m at H0
     refine Ba (fun x e q => ∃ i : Nat, i + x = l.length ∧ Hp s q s.en [] [(m, .cells 3 (cnts l.length (flatK (l.take i))))] ∧ (∀ a g, a < i → l[a]? = some g → fine l.length a g) ∧ e.get 0 = fx l ∧ e.get 3 = .bl m 1 0 l.length (l.length, true) ∧ e.get 21 = fx l ∧ e.get 22 = .i .i64 (l.length : Nat) ∧ e.get 23 = .i .i64 (i : Nat)) ?_ l.length _ _ ?_
     · rintro x e q ⟨i, hix, H, hfi, g0, g3, g21, g22, g23⟩
       by_cases h : i < l.length
       · have h1 : ((i : Int) < (l.length : Int)) = True := by simp only [eq_iff_iff, iff_true]; omega
         obtain ⟨g, hg⟩ : ∃ g, l[i]? = some g := ⟨_, List.getElem?_eq_getElem h⟩
         have hg2 := NN hg
         have hgo := ho g (List.mem_of_getElem? hg)
         have hw1 := Af (show i + 1 < 2 ^ 63 by omega)
         obtain ⟨q1, d1, H1, n1⟩ := H.adp (T := 26) (m := 6) (z := [.b false, .i .u8 0, .nsl, .nsl, .i .i64 0, .i .i64 0]) (v := .agg g.cells) rfl ⟨rfl, rfl⟩
         generalize hb : q.nb = b at d1 H1
         have hone := one_ok g hgo q1 H1.wf
         have lw := H1.ldw (m := 6) 0 rfl rfl
         have l3 := H1.ld 0 (off := 3) (v := zx g.kids) rfl rfl
         have hno : ¬ fine l.length i g → mayP l = false := fun hn => by rw [hl0] at hg hn ⊢; exact TI hg hn
         cases ho1 : g.one
         · rw [ho1] at hone
           rw [hno fun hh => by rw [hh.1] at ho1; cases ho1]
           simp only [go_sem, AD, AA, AC, AB, KB_n, KB_x, Nat.reduceBEq, Nat.reduceAdd, Nat.reduceLT, Nat.reduceLeDiff, Nat.reduceEqDiff, reduceIte, Int.reduceEq, reduceCtorEq, g0, g3, g21, g22, g23, fx, h1, AI, hg2, Dl, EQ, Bh, d1, hb, lw, hone]
           exact AO H1.over rfl rfl
         · rw [ho1] at hone
           simp only [go_sem, AD, AA, AC, AB, KB_n, KB_x, Nat.reduceBEq, Nat.reduceAdd, Nat.reduceLT, Nat.reduceLeDiff, Nat.reduceEqDiff, reduceIte, Int.reduceEq, reduceCtorEq, g0, g3, g21, g22, g23, fx, h1, AI, hg2, Dl, EQ, Bh, d1, hb, lw, hone, l3, Nat.zero_add, zx, List.length_map]
           refine Ba (fun y e q' => ∃ c : Nat, c + y = g.kids.length ∧ Hp s q' s.en [] [(b, .cells 26 g.cells), (m, .cells 3 (cnts l.length (flatK (l.take i) ++ g.kids.take c)))] ∧ (∀ k ∈ g.kids.take c, (i : Int) < k ∧ k < (l.length : Int)) ∧ e.get 0 = fx l ∧ e.get 3 = .bl m 1 0 l.length (l.length, true) ∧ e.get 21 = fx l ∧ e.get 22 = .i .i64 (l.length : Nat) ∧ e.get 23 = .i .i64 (i : Nat) ∧ e.get 4 = .i .i64 (i : Nat) ∧ e.get 32 = zx g.kids ∧ e.get 33 = .i .i64 (g.kids.length : Nat) ∧ e.get 34 = .i .i64 (c : Nat)) ?_ g.kids.length _ _ ?_
           · clear g0 g3 g21 g22 g23
             rintro y e q' ⟨c, hcy, H, hfk, g0, g3, g21, g22, g23, g4, g32, g33, g34⟩
             by_cases hc : c < g.kids.length
             · have c1 : ((c : Int) < (g.kids.length : Int)) = True := by simp only [eq_iff_iff, iff_true]; omega
               obtain ⟨k, hk⟩ : ∃ k, g.kids[c]? = some k := ⟨_, List.getElem?_eq_getElem hc⟩
               have hk2 := Ty hk
               have hkm := List.mem_of_getElem? hk
               have hw2 := Af (show c + 1 < 2 ^ 63 by have := hgo.klen; omega)
               by_cases k1 : k ≤ (i : Int)
               · have e1 : (k ≤ (i : Int)) = True := by simp [k1]
                 rw [hno fun hh => by have := (hh.2 k hkm).1; omega]
                 simp only [go_sem, AD, AA, AC, AB, KB_n, KB_x, Nat.reduceBEq, Nat.reduceAdd, Nat.reduceLT, Nat.reduceLeDiff, Nat.reduceEqDiff, reduceIte, Int.reduceEq, reduceCtorEq, g0, g3, g21, g22, g23, g4, g32, g33, g34, zx, c1, AI, hk2, HU, Cf, e1]
                 exact AO H.over rfl rfl
               · have e1 : (k ≤ (i : Int)) = False := by simp [k1]
                 by_cases k2 : (l.length : Int) ≤ k
                 · have e2 : ((l.length : Int) ≤ k) = True := by simp [k2]
                   rw [hno fun hh => by have := (hh.2 k hkm).2; omega]
                   simp only [go_sem, AD, AA, AC, AB, KB_n, KB_x, Nat.reduceBEq, Nat.reduceAdd, Nat.reduceLT, Nat.reduceLeDiff, Nat.reduceEqDiff, reduceIte, Int.reduceEq, reduceCtorEq, g0, g3, g21, g22, g23, g4, g32, g33, g34, fx, zx, List.length_map, c1, AI, hk2, HU, Cf, e1, e2]
                   exact AO H.over rfl rfl
                 · have e2 : ((l.length : Int) ≤ k) = False := by simp [k2]
                   obtain ⟨j, rfl⟩ : ∃ j : Nat, k = (j : Int) := ⟨k.toNat, by omega⟩
                   have hj : j < l.length := by omega
                   have hlt : (j < l.length) = True := by simp [hj]
                   have lj := H.ld 1 (off := j) (v := _) rfl (Ik hj)
                   obtain ⟨q2, d2, H2, n2, _⟩ := H.st 1 (off := j) (v := .i .i64 (((flatK (l.take i) ++ g.kids.take c).count (j : Int) + 1 : Nat) : Int)) rfl (by rw [Js]; exact hj) ⟨rfl, rfl⟩
                   have hth : ∀ u : St, Kz u (.bl m 1 0 l.length (l.length, true)) = some (.bl m 1 0 l.length (l.length, true), u) := fun _ => rfl
                   have hcnt : (flatK (l.take i) ++ g.kids.take c).count (j : Int) < 2 ^ 62 := by
                    have a1 := List.count_le_length (a := (j : Int)) (l := flatK (l.take i) ++ g.kids.take c)
                    have a2 := PI l (i + 1)
                    rw [FZ hg] at a2
                    simp only [List.length_append, List.length_take] at a1 a2
                    omega
                   have hw3 := Af (show (flatK (l.take i) ++ g.kids.take c).count (j : Int) + 1 < 2 ^ 63 by omega)
                   simp only [go_sem, AD, AA, AC, AB, KB_n, KB_x, Nat.reduceBEq, Nat.reduceAdd, Nat.reduceLT, Nat.reduceLeDiff, Nat.reduceEqDiff, reduceIte, Int.reduceEq, reduceCtorEq, g0, g3, g21, g22, g23, g4, g32, g33, g34, fx, zx, List.length_map, c1, AI, hk2, HU, Cf, e1, e2, hlt, Nat.zero_add, Nat.mul_one, lj, hth, hw3, d2, hw2]
                   rw [TH hj] at H2
                   have htk : g.kids.take (c + 1) = g.kids.take c ++ [(j : Int)] := by rw [List.take_add_one, hk]; rfl
                   refine ⟨y - 1, by omega, c + 1, by omega, ?_, ?_, ?_⟩
                   · rw [htk, ← List.append_assoc]; exact H2
                   · intro k' hk'
                     rw [htk] at hk'
                     rcases List.mem_append.1 hk' with h' | h'
                     · exact hfk k' h'
                     · rw [List.mem_singleton] at h'; subst h'; omega
                   rfl
             · have c1 : ((c : Int) < (g.kids.length : Int)) = False := by simp only [eq_iff_iff, iff_false]; omega
               have htc : g.kids.take c = g.kids := List.take_of_length_le (by omega)
               rw [htc] at H hfk
               rw [← FZ hg] at H
               simp only [go_sem, AD, AA, AC, AB, KB_n, KB_x, Nat.reduceBEq, Nat.reduceAdd, Nat.reduceLT, Nat.reduceLeDiff, Nat.reduceEqDiff, reduceIte, Int.reduceEq, reduceCtorEq, g0, g3, g21, g22, g23, g4, g32, g33, g34, c1, hw1]
               refine ⟨x - 1, by omega, i + 1, by omega, H.dropB, fun a g' ha hg' => ?_, rfl, rfl, rfl⟩
               rcases Nat.lt_or_ge a i with hlt | hge
               · exact hfi a g' hlt hg'
               · obtain rfl : a = i := by omega
                 rw [hg] at hg'; cases hg'
                 exact ⟨ho1, hfk⟩
           · simp only [go_sem, AD, AA, AC, AB, KB_n, KB_x, Nat.reduceBEq, Nat.reduceAdd, Nat.reduceLT, Nat.reduceLeDiff, Nat.reduceEqDiff, reduceIte, Int.reduceEq, reduceCtorEq]
             refine ⟨0, by omega, ?_, fun k hk => by simp at hk, ?_⟩
             · rw [List.take_zero, List.append_nil]; exact H1
             exact ⟨g0, g3, g21, g22, g23, rfl, rfl⟩
       · have h1 : ((i : Int) < (l.length : Int)) = False := by simp only [eq_iff_iff, iff_false]; omega
         rw [List.take_of_length_le (by omega)] at H
         have hs : Ch q false 1 (.bl m 1 0 l.length (l.length, true)) (some (.i .i64 1)) none none = some (.bl m 1 1 (l.length - 1) (l.length, true), q) := by
          have hbd : Cn l.length (some (.i .i64 1)) none = some (1, l.length) := by
           show (if 1 ≤ l.length ∧ l.length ≤ l.length then some (1, l.length) else none) = _
           rw [if_pos ⟨by omega, by omega⟩]
          simp only [Ch, Option.isSome_none, if_true, Bool.false_eq_true, if_false, hbd]
         have hbx := H.box (i := 0) rfl
         have hc := Je ((List.range (l.length - 1)).map fun j : Nat => ((cntK l ((j : Int) + 1) : Nat) : Int)) (by simp; omega) F0 [] (fun z => decide (z ≠ 1)) q H.wf (id := m) (off := 1) (p := (l.length, true)) hbx.2.2 hbx.1 (fun j z hz => by
          rw [List.getElem?_map] at hz
          have hj : j < l.length - 1 := by
           by_cases hj : j < l.length - 1
           · exact hj
           · rw [List.getElem?_eq_none (by simpa using hj)] at hz; cases hz
          rw [List.getElem?_range hj] at hz
          cases hz
          rw [Ik (show 1 + j < l.length by omega), show (((1 + j : Nat) : Int)) = (j : Int) + 1 by omega]
          rfl) (fun z _ => VX z q.enter)
         rw [List.length_map, List.length_range] at hc
         simp only [go_sem, AD, AA, AC, AB, KB_n, KB_x, Nat.reduceBEq, Nat.reduceAdd, Nat.reduceLT, Nat.reduceLeDiff, Nat.reduceEqDiff, reduceIte, Int.reduceEq, reduceCtorEq, g0, g3, g21, g22, g23, h1, hs, hc]
         refine AO H.over rfl ?_
         have hfin : mayP l = NM l := by
          rw [hl0]
          exact TJ hi fun a g hg => by rw [← hl0] at hg ⊢; exact hfi a g (by have := (List.getElem?_eq_some_iff.1 hg).1; omega) hg
         rw [hfin, TK l hpos]
         rfl
     · simp only [go_sem, AD, AA, AC, AB, KB_n, KB_x, Nat.reduceBEq, Nat.reduceAdd, Nat.reduceLT, Nat.reduceLeDiff, Nat.reduceEqDiff, reduceIte, Int.reduceEq, reduceCtorEq]
       exact ⟨0, by omega, H0, fun a g ha => by omega, rfl, rfl, rfl⟩
end Go.Proofs.YtbfgoopcnkeblaaGreat

/-
  The document's May: above.
-/
set_option maxRecDepth 100000
set_option maxHeartbeats 4000000
namespace Go.Proofs.YtbfgoopcnkeblaaGreat
open Go.Proofs.YtbfgoopcnkeblaaGreat.Am
attribute [local irreducible] W WO WE WQ WD Tr.get Tr.set
def D3 (l : List FT) (j : Int) : Int := match G5 l j with
 | some i => (i : Int)
 | none => -1
def TL (l : List FT) (P : List Int) (j : Int) (at_ : Int) : Prop := (P.count j = 0 ∧ at_ = -1) ∨ (P.count j = 1 ∧ ∃ (a : Nat) (f : FT), at_ = (a : Int) ∧ l[a]? = some f ∧ j ∈ f.kids)
theorem Rd {l : List FT} {j : Int} (h : 2 ≤ cntK l j) : D3 l j = -1 := by
 unfold D3 G5
 rw [if_neg (by omega)]
theorem Re {l : List FT} {j at_ : Int} (h : TL l (flatK l) j at_) : D3 l j = at_ := by
 rcases h with ⟨h, rfl⟩ | ⟨h, a, f, rfl, hf, hj⟩
 · unfold D3 G5
   rw [if_neg (by unfold cntK; omega)]
 · unfold D3
   rw [PE h hf hj]
theorem Pu {l : List FT} {i c : Nat} {f : FT} {k : Int} (h : l[i]? = some f) (hk : f.kids[c]? = some k) : ∃ S, flatK l = flatK (l.take i) ++ f.kids.take c ++ [k] ++ S := by
 refine ⟨f.kids.drop (c + 1) ++ flatK (l.drop (i + 1)), ?_⟩
 have h1 : flatK l = flatK (l.take (i + 1)) ++ flatK (l.drop (i + 1)) := by
  unfold flatK
  rw [← List.flatten_append, ← List.map_append, List.take_append_drop]
 have h2 : f.kids = f.kids.take c ++ [k] ++ f.kids.drop (c + 1) := by
  have h3 : f.kids.take (c + 1) = f.kids.take c ++ [k] := by rw [List.take_add_one, hk]; rfl
  rw [← h3, List.take_append_drop]
 rw [h1, FZ h]
 conv => lhs; rw [h2]
 simp only [List.append_assoc]
theorem TM (l : List FT) (ho : ∀ f ∈ l, f.Ok) (hl : l.length < 2 ^ 34) (j : Int) (s : St) (hw : Wf s) : (lim prog).call Cs [fx l, .i .i64 j] s = some (.i .i64 (D3 l j), s) := by
 refine fn_W F8 rfl rfl ?_
 have hz0 : wkZ BN.cin [fx l, .i .i64 j] = [fx l, .i .i64 j] := by
  simp only [BN, wkZ, fx, wk]
 have hbr : ∀ z, KR s [.id] (.i .i64 z) (some ([.i .i64 z], s.enter)) := fun z => AO (Over.enter s) rfl rfl
 have hth : ∀ u : St, Kz u (.ws false 6 (l.map FT.av)) = some (.ws false 6 (l.map FT.av), u) := fun _ => rfl
 rw [hz0]
 simp only [BN, go_sem, AD, AA, AC, AB, KB_n, KB_x, Nat.reduceBEq, Nat.reduceAdd, Nat.reduceLT, Nat.reduceLeDiff, Nat.reduceEqDiff, reduceIte, Int.reduceEq, reduceCtorEq]
 refine Ba (fun x e q => ∃ i : Nat, i + x = l.length ∧ q = s.enter ∧ (∃ at_, TL l (flatK (l.take i)) j at_ ∧ e.get 5 = .i .i64 at_) ∧ e.get 0 = fx l ∧ e.get 1 = .i .i64 j ∧ e.get 6 = .i .i64 (i : Nat)) ?_ l.length _ _ ?_
 · rintro x e q ⟨i, hix, rfl, ⟨at_, hat, g5⟩, g0, g1, g6⟩
   by_cases h : i < l.length
   · have h1 : ((i : Int) < (l.length : Int)) = True := by simp only [eq_iff_iff, iff_true]; omega
     obtain ⟨g, hg⟩ : ∃ g, l[i]? = some g := ⟨_, List.getElem?_eq_getElem h⟩
     have hg2 := NN hg
     have hgo := ho g (List.mem_of_getElem? hg)
     have hw1 := Af (show i + 1 < 2 ^ 63 by omega)
     have l3 : ∀ u, ldA u false 1 (.ep g.cells 3 .shut) = some (zx g.kids) := fun u => rfl
     simp only [go_sem, AD, AA, AC, AB, KB_n, KB_x, Nat.reduceBEq, Nat.reduceAdd, Nat.reduceLT, Nat.reduceLeDiff, Nat.reduceEqDiff, reduceIte, Int.reduceEq, reduceCtorEq, g0, g1, g5, g6, fx, List.length_map, h1]
     refine Ba (fun y e q => ∃ c : Nat, c + y = g.kids.length ∧ q = s.enter ∧ (∃ at_, TL l (flatK (l.take i) ++ g.kids.take c) j at_ ∧ e.get 5 = .i .i64 at_) ∧ e.get 0 = fx l ∧ e.get 1 = .i .i64 j ∧ e.get 6 = .i .i64 (i : Nat) ∧ e.get 7 = .i .i64 (c : Nat)) ?_ g.kids.length _ _ ?_
     · clear g0 g1 g5 g6 hat at_
       rintro y e q ⟨c, hcy, rfl, ⟨at_, hat, g5⟩, g0, g1, g6, g7⟩
       by_cases hc : c < g.kids.length
       · have c1 : ((c : Int) < (g.kids.length : Int)) = True := by simp only [eq_iff_iff, iff_true]; omega
         obtain ⟨k, hk⟩ : ∃ k, g.kids[c]? = some k := ⟨_, List.getElem?_eq_getElem hc⟩
         have hk2 := Ty hk
         have hkm := List.mem_of_getElem? hk
         have hw2 := Af (show c + 1 < 2 ^ 63 by have := hgo.klen; omega)
         have htk : g.kids.take (c + 1) = g.kids.take c ++ [k] := by rw [List.take_add_one, hk]; rfl
         by_cases k1 : k = j
         · have e1 : (k = j) = True := by simp [k1]
           rcases hat with ⟨h0, rfl⟩ | ⟨h0, a, f, rfl, hf, hj⟩
           · have e2 : ((0 : Int) ≤ -1) = False := by simp
             simp only [go_sem, AD, AA, AC, AB, KB_n, KB_x, Nat.reduceBEq, Nat.reduceAdd, Nat.reduceLT, Nat.reduceLeDiff, Nat.reduceEqDiff, reduceIte, Int.reduceEq, reduceCtorEq, g0, g1, g5, g6, g7, fx, zx, List.length_map, AI, hg2, Dl, l3, c1, hk2, HU, Cf, hth, e1, e2, hw2]
             refine ⟨y - 1, by omega, c + 1, by omega, ⟨i, .inr ⟨?_, i, g, rfl, hg, by rw [← k1]; exact hkm⟩, rfl⟩, rfl⟩
             rw [htk, ← List.append_assoc, List.count_append, h0, k1]; simp
           · have e2 : ((0 : Int) ≤ (a : Int)) = True := by simp
             obtain ⟨S, hS⟩ := Pu hg hk
             rw [Rd (by
              unfold cntK
              rw [hS, List.count_append, List.count_append, h0, k1]; simp)]
             simp only [go_sem, AD, AA, AC, AB, KB_n, KB_x, Nat.reduceBEq, Nat.reduceAdd, Nat.reduceLT, Nat.reduceLeDiff, Nat.reduceEqDiff, reduceIte, Int.reduceEq, reduceCtorEq, g0, g1, g5, g6, g7, fx, zx, List.length_map, AI, hg2, Dl, l3, c1, hk2, HU, Cf, hth, e1, e2, hw2]
             exact hbr _
         · have e1 : (k = j) = False := by simp [k1]
           simp only [go_sem, AD, AA, AC, AB, KB_n, KB_x, Nat.reduceBEq, Nat.reduceAdd, Nat.reduceLT, Nat.reduceLeDiff, Nat.reduceEqDiff, reduceIte, Int.reduceEq, reduceCtorEq, g0, g1, g5, g6, g7, fx, zx, List.length_map, AI, hg2, Dl, l3, c1, hk2, HU, Cf, hth, e1, hw2]
           refine ⟨y - 1, by omega, c + 1, by omega, ⟨at_, ?_, rfl⟩, rfl⟩
           have h0 : (flatK (l.take i) ++ g.kids.take (c + 1)).count j = (flatK (l.take i) ++ g.kids.take c).count j := by
            rw [htk, ← List.append_assoc, List.count_append]
            have : List.count j [k] = 0 := by rw [List.count_eq_zero]; simp; omega
            omega
           unfold TL
           rw [h0]; exact hat
       · have c1 : ((c : Int) < (g.kids.length : Int)) = False := by simp only [eq_iff_iff, iff_false]; omega
         have htc : g.kids.take c = g.kids := List.take_of_length_le (by omega)
         rw [htc, ← FZ hg] at hat
         simp only [go_sem, AD, AA, AC, AB, KB_n, KB_x, Nat.reduceBEq, Nat.reduceAdd, Nat.reduceLT, Nat.reduceLeDiff, Nat.reduceEqDiff, reduceIte, Int.reduceEq, reduceCtorEq, g0, g1, g5, g6, g7, fx, zx, List.length_map, AI, hg2, Dl, l3, c1, hth, hw1]
         exact ⟨x - 1, by omega, i + 1, by omega, ⟨at_, hat, rfl⟩, rfl⟩
     · simp only [go_sem, AD, AA, AC, AB, KB_n, KB_x, Nat.reduceBEq, Nat.reduceAdd, Nat.reduceLT, Nat.reduceLeDiff, Nat.reduceEqDiff, reduceIte, Int.reduceEq, reduceCtorEq]
       exact ⟨0, by omega, ⟨at_, by rw [List.take_zero, List.append_nil]; exact hat, g5⟩, g0, g1, g6, rfl⟩
   · have h1 : ((i : Int) < (l.length : Int)) = False := by simp only [eq_iff_iff, iff_false]; omega
     rw [List.take_of_length_le (by omega)] at hat
     rw [Re hat]
     simp only [go_sem, AD, AA, AC, AB, KB_n, KB_x, Nat.reduceBEq, Nat.reduceAdd, Nat.reduceLT, Nat.reduceLeDiff, Nat.reduceEqDiff, reduceIte, Int.reduceEq, reduceCtorEq, g0, g1, g5, g6, fx, List.length_map, h1]
     exact hbr _
 · simp only [go_sem, AD, AA, AC, AB, KB_n, KB_x, Nat.reduceBEq, Nat.reduceAdd, Nat.reduceLT, Nat.reduceLeDiff, Nat.reduceEqDiff, reduceIte, Int.reduceEq, reduceCtorEq]
   exact ⟨0, by omega, ⟨-1, .inl ⟨rfl, rfl⟩, rfl⟩, rfl⟩
theorem TN (f : FT) (t : List FT) : mayP (f :: t) = (f.isDir && ((f :: t).all FT.one && (decide ((flatK (f :: t)).length = (f :: t).length - 1) && upB (f :: t)))) := by
 rw [mayP, VV (f :: t) (by simp)]
theorem OA {l : List FT} : upB l = true ↔ ∀ j, 1 ≤ j → j < l.length → 0 ≤ D3 l (j : Int) ∧ D3 l (j : Int) < j := by
 rw [Tw]
 constructor
 · intro h j h1 h2
   obtain ⟨n, e, hn⟩ := h j h1 (by omega)
   unfold D3
   rw [e]
   exact ⟨by simp, by simp; omega⟩
 · intro h j h1 h2
   have := h j h1 (by omega)
   unfold D3 at this
   cases e : G5 l (j : Int) with
   | none => rw [e] at this; simp at this
   | some n => rw [e] at this; exact ⟨n, rfl, by simp at this; omega⟩
theorem OB (l : List FT) (ho : ∀ f ∈ l, f.Ok) (hl : l.length < 2 ^ 34) (hB : (flatK l).length < 2 ^ 62) (s : St) (hw : Wf s) : (lim prog).call DH [fx l] s = some (.b (mayP l), s) := by
 refine fn_W Gx rfl rfl ?_
 have hz0 : wkZ A6.cin [fx l] = [fx l] := by
  simp only [A6, wkZ, fx, wk]
 have hbr : ∀ b, KR s [.id] (.b b) (some ([.b b], s.enter)) := fun z => AO (Over.enter s) rfl rfl
 have hth : ∀ u : St, Kz u (.ws false 6 (l.map FT.av)) = some (.ws false 6 (l.map FT.av), u) := fun _ => rfl
 rw [hz0]
 cases hl0 : l with
 | nil =>
   have r1 : (((List.map FT.av []).length : Int) = 0) = True := by simp
   simp only [A6, go_sem, AD, AA, AC, AB, KB_n, KB_x, Nat.reduceBEq, Nat.reduceAdd, Nat.reduceLT, Nat.reduceLeDiff, Nat.reduceEqDiff, reduceIte, Int.reduceEq, reduceCtorEq, fx, r1]
   exact AO (Over.enter s) rfl rfl
 | cons f t =>
   have hmay := TN f t
   rw [← hl0] at hmay ⊢
   rw [hmay]
   have hf0 : l[0]? = some f := by rw [hl0]; rfl
   have hpos : 0 < l.length := by rw [hl0]; simp
   have r1 : ((l.length : Int) = 0) = False := by simp only [eq_iff_iff, iff_false]; omega
   have hget := NN hf0
   have hd := Kp f s.enter hw.enter
   cases hi : f.isDir
   · rw [hi] at hd
     simp only [A6, go_sem, AD, AA, AC, AB, KB_n, KB_x, Nat.reduceBEq, Nat.reduceAdd, Nat.reduceLT, Nat.reduceLeDiff, Nat.reduceEqDiff, reduceIte, Int.reduceEq, reduceCtorEq, fx, List.length_map, r1, NQ, hget, Dl, EQ, Bh, hd, Bool.false_and]
     exact hbr _
   · rw [hi] at hd
     rw [Bool.true_and]
     simp only [A6, go_sem, AD, AA, AC, AB, KB_n, KB_x, Nat.reduceBEq, Nat.reduceAdd, Nat.reduceLT, Nat.reduceLeDiff, Nat.reduceEqDiff, reduceIte, Int.reduceEq, reduceCtorEq, fx, List.length_map, r1, NQ, hget, Dl, EQ, Bh, hd]
     refine Ba (fun x e q => ∃ i : Nat, i + x = l.length ∧ q = s.enter ∧ (∀ a g, a < i → l[a]? = some g → g.one = true) ∧ e.get 0 = fx l ∧ e.get 3 = .i .i64 ((flatK (l.take i)).length : Nat) ∧ e.get 4 = .i .i64 (i : Nat)) ?_ l.length _ _ ?_
     · rintro x e q ⟨i, hix, rfl, hon, g0, g3, g4⟩
       by_cases h : i < l.length
       · have h1 : ((i : Int) < (l.length : Int)) = True := by simp only [eq_iff_iff, iff_true]; omega
         obtain ⟨g, hg⟩ : ∃ g, l[i]? = some g := ⟨_, List.getElem?_eq_getElem h⟩
         have hg2 := NN hg
         have hgm := List.mem_of_getElem? hg
         have hgo := ho g hgm
         have hw1 := Af (show i + 1 < 2 ^ 63 by omega)
         have l3 : ∀ u, ldA u false 1 (.ep g.cells 3 .shut) = some (zx g.kids) := fun u => rfl
         have hone := N8 g hgo s.enter hw.enter
         cases ho1 : g.one
         · rw [ho1] at hone
           have : l.all FT.one = false := by
            rw [Bool.eq_false_iff]; intro hh
            rw [List.all_eq_true] at hh
            rw [hh g hgm] at ho1; cases ho1
           rw [this, Bool.false_and]
           simp only [go_sem, AD, AA, AC, AB, KB_n, KB_x, Nat.reduceBEq, Nat.reduceAdd, Nat.reduceLT, Nat.reduceLeDiff, Nat.reduceEqDiff, reduceIte, Int.reduceEq, reduceCtorEq, g0, g3, g4, fx, List.length_map, h1, AI, hg2, Dl, EQ, Bh, hone]
           exact hbr _
         · rw [ho1] at hone
           have hfl := PI l (i + 1)
           have hft := FZ hg
           have hsum : IntKind.i64.wrap (((flatK (l.take i)).length : Int) + (g.kids.length : Int)) = ((flatK (l.take (i + 1))).length : Int) := by
            rw [hft, List.length_append, show ((flatK (l.take i)).length : Int) + (g.kids.length : Int) = (((flatK (l.take i)).length + g.kids.length : Nat) : Int) by omega]
            refine CA ?_
            rw [hft, List.length_append] at hfl
            omega
           simp only [go_sem, AD, AA, AC, AB, KB_n, KB_x, Nat.reduceBEq, Nat.reduceAdd, Nat.reduceLT, Nat.reduceLeDiff, Nat.reduceEqDiff, reduceIte, Int.reduceEq, reduceCtorEq, g0, g3, g4, fx, zx, List.length_map, h1, AI, hg2, Dl, EQ, Bh, hone, hth, l3, hsum, hw1]
           refine ⟨x - 1, by omega, i + 1, by omega, fun a g' ha hg' => ?_, rfl, rfl⟩
           rcases Nat.lt_or_ge a i with hlt | hge
           · exact hon a g' hlt hg'
           · obtain rfl : a = i := by omega
             rw [hg] at hg'; cases hg'
             exact ho1
       · have h1 : ((i : Int) < (l.length : Int)) = False := by simp only [eq_iff_iff, iff_false]; omega
         rw [List.take_of_length_le (by omega)] at g3
         have hall : l.all FT.one = true := by
          rw [List.all_eq_true]
          intro g hg
          obtain ⟨a, ha, rfl⟩ := List.mem_iff_getElem.1 hg
          exact hon a _ (by omega) (List.getElem?_eq_getElem ha)
         have hsb : IntKind.i64.wrap ((l.length : Int) - 1) = ((l.length - 1 : Nat) : Int) := by
          rw [show (l.length : Int) - 1 = ((l.length - 1 : Nat) : Int) by omega]; exact CA (by omega)
         rw [hall, Bool.true_and]
         by_cases hk : (flatK l).length = l.length - 1
         · have e1 : (((flatK l).length : Int) ≠ ((l.length - 1 : Nat) : Int)) = False := by simp only [ne_eq, eq_iff_iff, iff_false]; omega
           rw [decide_eq_true hk, Bool.true_and]
           simp only [go_sem, AD, AA, AC, AB, KB_n, KB_x, Nat.reduceBEq, Nat.reduceAdd, Nat.reduceLT, Nat.reduceLeDiff, Nat.reduceEqDiff, reduceIte, Int.reduceEq, reduceCtorEq, g0, g3, g4, fx, List.length_map, h1, hsb, e1]
           refine Ba (fun x e q => ∃ i : Nat, 1 ≤ i ∧ i + x = l.length ∧ q = s.enter ∧ (∀ j, 1 ≤ j → j < i → 0 ≤ D3 l (j : Int) ∧ D3 l (j : Int) < j) ∧ e.get 0 = fx l ∧ e.get 5 = .i .i64 (i : Nat)) ?_ (l.length - 1) _ _ ?_
           · clear hon g0 g3 g4 hix h h1
             rintro x e q ⟨i, hi1, hix, rfl, hup, g0, g5⟩
             by_cases h : i < l.length
             · have h1 : ((i : Int) < (l.length : Int)) = True := by simp only [eq_iff_iff, iff_true]; omega
               have ha := TM l ho hl (i : Int) s.enter hw.enter
               have hw1 := Af (show i + 1 < 2 ^ 63 by omega)
               unfold fx at ha
               by_cases a1 : D3 l (i : Int) < 0
               · have e2 : (D3 l (i : Int) < 0) = True := by simp [a1]
                 have : upB l = false := by
                  rw [Bool.eq_false_iff]; intro hh
                  have := (OA.1 hh i hi1 h).1
                  omega
                 rw [this]
                 simp only [go_sem, AD, AA, AC, AB, KB_n, KB_x, Nat.reduceBEq, Nat.reduceAdd, Nat.reduceLT, Nat.reduceLeDiff, Nat.reduceEqDiff, reduceIte, Int.reduceEq, reduceCtorEq, g0, g5, fx, List.length_map, h1, ha, e2]
                 exact hbr _
               · have e2 : (D3 l (i : Int) < 0) = False := by simp only [eq_iff_iff, iff_false]; exact a1
                 by_cases a2 : (i : Int) ≤ D3 l (i : Int)
                 · have e3 : ((i : Int) ≤ D3 l (i : Int)) = True := by simp [a2]
                   have : upB l = false := by
                    rw [Bool.eq_false_iff]; intro hh
                    have := (OA.1 hh i hi1 h).2
                    omega
                   rw [this]
                   simp only [go_sem, AD, AA, AC, AB, KB_n, KB_x, Nat.reduceBEq, Nat.reduceAdd, Nat.reduceLT, Nat.reduceLeDiff, Nat.reduceEqDiff, reduceIte, Int.reduceEq, reduceCtorEq, g0, g5, fx, List.length_map, h1, ha, e2, e3]
                   exact hbr _
                 · have e3 : ((i : Int) ≤ D3 l (i : Int)) = False := by simp only [eq_iff_iff, iff_false]; exact a2
                   simp only [go_sem, AD, AA, AC, AB, KB_n, KB_x, Nat.reduceBEq, Nat.reduceAdd, Nat.reduceLT, Nat.reduceLeDiff, Nat.reduceEqDiff, reduceIte, Int.reduceEq, reduceCtorEq, g0, g5, fx, List.length_map, h1, ha, e2, e3, hw1]
                   refine ⟨x - 1, by omega, i + 1, by omega, by omega, fun j h1 h2 => ?_, rfl⟩
                   rcases Nat.lt_or_ge j i with hlt | hge
                   · exact hup j h1 hlt
                   · obtain rfl : j = i := by omega
                     omega
             · have h1 : ((i : Int) < (l.length : Int)) = False := by simp only [eq_iff_iff, iff_false]; omega
               have : upB l = true := OA.2 fun j h1 h2 => hup j h1 (by omega)
               rw [this]
               simp only [go_sem, AD, AA, AC, AB, KB_n, KB_x, Nat.reduceBEq, Nat.reduceAdd, Nat.reduceLT, Nat.reduceLeDiff, Nat.reduceEqDiff, reduceIte, Int.reduceEq, reduceCtorEq, g0, g5, fx, List.length_map, h1]
               exact hbr _
           · simp only [go_sem, AD, AA, AC, AB, KB_n, KB_x, Nat.reduceBEq, Nat.reduceAdd, Nat.reduceLT, Nat.reduceLeDiff, Nat.reduceEqDiff, reduceIte, Int.reduceEq, reduceCtorEq]
             exact ⟨1, by omega, by omega, fun j h1 h2 => by omega, g0, rfl⟩
         · have e1 : (((flatK l).length : Int) ≠ ((l.length - 1 : Nat) : Int)) = True := by simp only [ne_eq, eq_iff_iff, iff_true]; omega
           rw [decide_eq_false hk, Bool.false_and]
           simp only [go_sem, AD, AA, AC, AB, KB_n, KB_x, Nat.reduceBEq, Nat.reduceAdd, Nat.reduceLT, Nat.reduceLeDiff, Nat.reduceEqDiff, reduceIte, Int.reduceEq, reduceCtorEq, g0, g3, g4, fx, List.length_map, h1, hsb, e1]
           exact hbr _
     · simp only [go_sem, AD, AA, AC, AB, KB_n, KB_x, Nat.reduceBEq, Nat.reduceAdd, Nat.reduceLT, Nat.reduceLeDiff, Nat.reduceEqDiff, reduceIte, Int.reduceEq, reduceCtorEq]
       exact ⟨0, by omega, fun a g ha => by omega, rfl, rfl, rfl⟩
end Go.Proofs.YtbfgoopcnkeblaaGreat

/-
  sym.well, of a term that was made whole; sym.May.
-/
set_option maxRecDepth 100000
set_option maxHeartbeats 4000000
namespace Go.Proofs.YtbfgoopcnkeblaaGreat
open Go.Proofs.YtbfgoopcnkeblaaGreat.Am
attribute [local irreducible] W WO WE WQ WD Tr.get Tr.set
theorem Rr {f : Nat} {fn : Fun} {args args' : List AV} {s : St} (hp : prog f = some fn) (hpr : fn.prim = none) (hl : args.length = args'.length) (hw : wkZ fn.cin args = wkZ fn.cin args') : (lim prog).call f args s = (lim prog).call f args' s := by
 rw [Fo, Fo]
 unfold Gk
 simp only [hp, hpr, hl, hw]
theorem E2 {n : TD} (h : DC n = true) : n.ref = -1 ∧ n.base = -1 ∧ ∀ k ∈ n.kids, DC k = true := by
 rw [Kt] at h
 simp only [Bool.and_eq_true, decide_eq_true_eq, List.all_eq_true] at h
 exact ⟨h.1, h.2.1, h.2.2⟩
theorem Jg : (((-1 : Int)) ≠ -1) = False := by simp
theorem Hx : ((0 : Int) ≤ -1) = False := by simp
theorem EW (s : St) (L : List FT) : pub s (fx L) = some (fx L, s) := rfl
theorem Cc (k : TD) : k.cells.all noTok = true := rfl
theorem FH (n : TD) : n.nd.kind = n.kind := by rw [TD.nd_eq]; rfl
theorem Ed (n : TD) : n.nd.names = n.names := by rw [TD.nd_eq]; rfl
theorem MS (n : TD) : n.nd.text = n.text := by rw [TD.nd_eq]; rfl
theorem Hy (n : TD) : n.nd.kids = n.kids.map TD.nd := by rw [TD.nd_eq]; rfl
theorem Px (L : List FT) : ∀ n : TD, n.Ok → DC n = true → ∀ s, Wf s → (lim prog).call HQ [fx L, .agg n.cells, .b false] s = some (.b (Bi n.nd), s) := by
 refine TD.ind fun n ih ho hwh s hw => ?_
 obtain ⟨hr, hb, hkw⟩ := E2 hwh
 refine fn_W Pr rfl rfl ?_
 have H1 := (Hp.begin hw).new (.cells 34 n.cells)
 generalize hq : s.enter.new (.cells 34 n.cells) = q at H1
 generalize hm : s.enter.nb = m at H1
 have l0 : ldA q false 1 (.p m 0) = some (.i .i64 (-1)) := by rw [← hr]; exact H1.ld 0 (off := 0) (v := .i .i64 n.ref) rfl rfl
 have l1 := H1.ld 0 (off := 1) (v := .i .u8 (n.kind : Nat)) rfl rfl
 have l2 := H1.ld 0 (off := 2) (v := .s n.text) rfl rfl
 have H2 := H1.new (.cells 30 [.i .u8 0, .s [], .nsl, .nsl])
 generalize hq2 : q.new (.cells 30 [.i .u8 0, .s [], .nsl, .nsl]) = q2 at H2
 generalize hm2 : q.nb = m2 at H2
 obtain ⟨q3, d3, H3, _⟩ := H2.stw 0 (v := .agg [.i .u8 (n.kind : Nat), .s n.text, .nsl, .nsl]) (m := 4) rfl rfl ⟨rfl, rfl⟩
 have k1 := H3.ld 1 (off := 1) (v := .i .u8 (n.kind : Nat)) rfl rfl
 have k2 := H3.ld 1 (off := 2) (v := .s n.text) rfl rfl
 have k3 : ldA q3 false 1 (.p m 3) = some (.i .i64 (-1)) := by rw [← hb]; exact H3.ld 1 (off := 3) (v := .i .i64 n.base) rfl rfl
 have k4 := H3.ld 1 (off := 4) (v := tx n.names) rfl rfl
 have k5 := H3.ld 1 (off := 5) (v := .ws false 6 (n.kids.map TD.av)) rfl rfl
 have kb := H3.ldw 0 (m := 4) rfl rfl
 have hz0 : wkZ CF.cin [fx L, .agg n.cells, .b false] = [fx L, .agg n.cells, .b false] := by simp [CF, wkZ, wk, TD.cells, fx]
 have hbr : ∀ b, KR s [.id] (.b b) (some ([.b b], q3)) := fun b => AO H3.over rfl rfl
 have hnl := ho.names.2
 have hkl := ho.kids.2
 rw [hz0]
 by_cases c0 : n.kind = 0
 · have e0 : ((n.kind : Int) = 0) = True := by simp only [eq_iff_iff, iff_true]; omega
   have : Bi n.nd = false := by
    rw [Dx, FH, c0, if_neg (by omega), if_neg (by omega)]
   rw [this]
   simp only [CF, go_sem, AD, AA, AC, AB, KB_n, KB_x, Nat.reduceBEq, Nat.reduceAdd, Nat.reduceLT, Nat.reduceLeDiff, Nat.reduceEqDiff, reduceIte, Int.reduceEq, reduceCtorEq, A4, hq, hm, l0, Jg, l1, l2, hq2, hm2, d3, k1, e0, Nat.zero_add]
   refine GH rfl ?_
   simp only [go_sem, AD, AA, AC, AB, KB_n, KB_x, Nat.reduceBEq, Nat.reduceAdd, Nat.reduceLT, Nat.reduceLeDiff, Nat.reduceEqDiff, reduceIte, Int.reduceEq, reduceCtorEq]
   refine N4 rfl (b := false) ?_ rfl ⟨_, rfl⟩ (GI ?_)
   · simp only [go_sem, AD, AA, AC, AB, KB_n, KB_x, Nat.reduceBEq, Nat.reduceAdd, Nat.reduceLT, Nat.reduceLeDiff, Nat.reduceEqDiff, reduceIte, Int.reduceEq, reduceCtorEq]
   simp only [go_sem, AD, AA, AC, AB, KB_n, KB_x, Nat.reduceBEq, Nat.reduceAdd, Nat.reduceLT, Nat.reduceLeDiff, Nat.reduceEqDiff, reduceIte, Int.reduceEq, reduceCtorEq]
   exact hbr _
 · have e0 : ((n.kind : Int) = 0) = False := by simp only [eq_iff_iff, iff_false]; omega
   by_cases c2 : n.kind = 2
   · have e2 : ((n.kind : Int) ≠ 2) = False := by simp only [ne_eq, eq_iff_iff, iff_false]; omega
     rw [Dx, FH, Ed, MS, Hy, if_neg (by omega), if_pos c2, List.length_map]
     by_cases d1 : n.text = []
     · have f1 : (n.text ≠ []) = False := by simp [d1]
       by_cases d2 : n.names.length = n.kids.length
       · have f2 : ((n.names.length : Int) ≠ (n.kids.length : Int)) = False := by simp only [ne_eq, eq_iff_iff, iff_false]; omega
         rw [decide_eq_true d1, decide_eq_true d2]
         simp only [CF, go_sem, AD, AA, AC, AB, KB_n, KB_x, Nat.reduceBEq, Nat.reduceAdd, Nat.reduceLT, Nat.reduceLeDiff, Nat.reduceEqDiff, reduceIte, Int.reduceEq, reduceCtorEq, A4, hq, hm, l0, Jg, l1, l2, hq2, hm2, d3, k1, k2, k3, k4, k5, e0, e2, f1, f2, List.length_map, Nat.zero_add]
         refine Ba (fun x e q => ∃ i : Nat, i + x = n.names.length ∧ q = q3 ∧ Cu none (n.names.take i) ((n.kids.map TD.nd).take i) = true ∧ e.get 0 = fx L ∧ e.get 4 = .p m 0 ∧ e.get 92 = tx n.names ∧ e.get 93 = .i .i64 (n.names.length : Nat) ∧ e.get 94 = .i .i64 (i : Nat)) ?_ n.names.length _ _ ?_
         · rintro x e q' ⟨i, hi, rfl, hwl, g0, g1, g55, g56, g57⟩
           by_cases h : i < n.names.length
           · have h1 : ((i : Int) < (n.names.length : Int)) = True := by simp only [eq_iff_iff, iff_true]; omega
             obtain ⟨y, hy⟩ : ∃ y, n.names[i]? = some y := ⟨_, List.getElem?_eq_getElem h⟩
             obtain ⟨k, hk⟩ : ∃ k, n.kids[i]? = some k := ⟨_, List.getElem?_eq_getElem (by omega)⟩
             have hy2 : (n.names.map AV.s)[i]? = some (.s y) := by rw [List.getElem?_map, hy]; rfl
             have hk2 := F9 hk
             have hkn : (n.kids.map TD.nd)[i]? = some k.nd := by rw [List.getElem?_map, hk]; rfl
             have hkm : k ∈ n.kids := List.mem_of_getElem? hk
             have hym : y ∈ n.names := List.mem_of_getElem? hy
             have hnm := OH y (ho.names.1 y hym) q' H3.wf
             have hkc := ih k hkm (ho.kids.1 k hkm) (hkw k hkm) q' H3.wf
             have hw1 := Af (show i + 1 < 2 ^ 63 by omega)
             have htk : n.names.take (i + 1) = n.names.take i ++ [y] := by rw [List.take_add_one, hy]; rfl
             have htk2 : (n.kids.map TD.nd).take (i + 1) = (n.kids.map TD.nd).take i ++ [k.nd] := by rw [List.take_add_one, hkn]; rfl
             have hsn := HV none (n.names.take i) ((n.kids.map TD.nd).take i) y k.nd (by rw [List.length_take, List.length_take, List.length_map]; omega)
             rw [← htk, ← htk2, hwl, Bool.true_and] at hsn
             have hno : Cu none (n.names.take (i + 1)) ((n.kids.map TD.nd).take (i + 1)) = false → Cu none n.names (n.kids.map TD.nd) = false := fun hf => by
              rw [Bool.eq_false_iff]
              intro ht
              rw [HW k.nd none n.names (n.kids.map TD.nd) (i + 1) ht] at hf
              cases hf
             cases hn1 : Db y with
             | false =>
               rw [hn1] at hnm hsn
               rw [hno hsn]
               simp only [go_sem, AD, AA, AC, AB, KB_n, KB_x, Nat.reduceBEq, Nat.reduceAdd, Nat.reduceLT, Nat.reduceLeDiff, Nat.reduceEqDiff, reduceIte, Int.reduceEq, reduceCtorEq, g0, g1, g55, g56, g57, h1, AI, hy2, BD, Cf, hnm]
               exact hbr _
             | true =>
             rw [hn1] at hnm hsn
             cases i with
             | zero =>
               have h2 : ((0 : Int) < ((0 : Nat) : Int)) = False := by simp
               have hsn : Cu none (n.names.take (0 + 1)) ((n.kids.map TD.nd).take (0 + 1)) = Bi k.nd := by rw [hsn]; simp
               cases hwk : Bi k.nd with
               | false =>
                 rw [hwk] at hkc hsn
                 rw [hno hsn]
                 simp only [go_sem, AD, AA, AC, AB, KB_n, KB_x, Nat.reduceBEq, Nat.reduceAdd, Nat.reduceLT, Nat.reduceLeDiff, Nat.reduceEqDiff, reduceIte, Int.reduceEq, reduceCtorEq, g0, g1, g55, g56, g57, h1, AI, hy2, BD, Cf, hnm, h2, k3, k5, hk2, C1, AR, Hx, EW, Cc, hkc, Nat.zero_add]
                 exact hbr _
               | true =>
                 rw [hwk] at hkc hsn
                 simp only [go_sem, AD, AA, AC, AB, KB_n, KB_x, Nat.reduceBEq, Nat.reduceAdd, Nat.reduceLT, Nat.reduceLeDiff, Nat.reduceEqDiff, reduceIte, Int.reduceEq, reduceCtorEq, g0, g1, g55, g56, g57, h1, AI, hy2, BD, Cf, hnm, h2, k3, k5, hk2, C1, AR, Hx, EW, Cc, hkc, hw1]
                 exact ⟨x - 1, by omega, 0 + 1, by omega, hsn, rfl⟩
             | succ i =>
               have h2 : ((0 : Int) < ((i + 1 : Nat) : Int)) = True := by simp only [eq_iff_iff, iff_true]; omega
               obtain ⟨z, hz⟩ : ∃ z, n.names[i]? = some z := ⟨_, List.getElem?_eq_getElem (by omega)⟩
               have hz2 : (n.names.map AV.s)[i]? = some (.s z) := by rw [List.getElem?_map, hz]; rfl
               have hsb : IntKind.i64.wrap (((i + 1 : Nat) : Int) - 1) = (i : Int) := by
                rw [show ((i + 1 : Nat) : Int) - 1 = (i : Int) by omega]; exact CA (by omega)
               rw [G6 hz] at hsn
               have hsn : Cu none (n.names.take (i + 1 + 1)) ((n.kids.map TD.nd).take (i + 1 + 1)) = (ltN z y && Bi k.nd) := by rw [hsn]; simp
               have hle : (ltN y z || beqN y z) = !ltN z y := Fb y z
               cases hzy : ltN z y with
               | false =>
                 rw [hzy] at hle hsn
                 rw [hno hsn]
                 simp only [go_sem, AD, AA, AC, AB, KB_n, KB_x, Nat.reduceBEq, Nat.reduceAdd, Nat.reduceLT, Nat.reduceLeDiff, Nat.reduceEqDiff, reduceIte, Int.reduceEq, reduceCtorEq, g0, g1, g55, g56, g57, h1, AI, hy2, BD, Cf, hnm, h2, k4, hsb, hz2, Fa, hle, Nat.zero_add]
                 exact hbr _
               | true =>
                 rw [hzy] at hle hsn
                 cases hwk : Bi k.nd with
                 | false =>
                   rw [hwk] at hkc hsn
                   rw [hno hsn]
                   simp only [go_sem, AD, AA, AC, AB, KB_n, KB_x, Nat.reduceBEq, Nat.reduceAdd, Nat.reduceLT, Nat.reduceLeDiff, Nat.reduceEqDiff, reduceIte, Int.reduceEq, reduceCtorEq, g0, g1, g55, g56, g57, h1, AI, hy2, BD, Cf, hnm, h2, k3, k4, k5, hsb, hz2, Fa, hle, hk2, C1, AR, Hx, EW, Cc, hkc, Nat.zero_add]
                   exact hbr _
                 | true =>
                   rw [hwk] at hkc hsn
                   simp only [go_sem, AD, AA, AC, AB, KB_n, KB_x, Nat.reduceBEq, Nat.reduceAdd, Nat.reduceLT, Nat.reduceLeDiff, Nat.reduceEqDiff, reduceIte, Int.reduceEq, reduceCtorEq, g0, g1, g55, g56, g57, h1, AI, hy2, BD, Cf, hnm, h2, k3, k4, k5, hsb, hz2, Fa, hle, hk2, C1, AR, Hx, EW, Cc, hkc, hw1, Nat.zero_add]
                   exact ⟨x - 1, by omega, i + 1 + 1, by omega, hsn, rfl⟩
           · have h1 : ((i : Int) < (n.names.length : Int)) = False := by simp only [eq_iff_iff, iff_false]; omega
             rw [List.take_of_length_le (by omega), List.take_of_length_le (by rw [List.length_map]; omega)] at hwl
             rw [hwl]
             simp only [go_sem, AD, AA, AC, AB, KB_n, KB_x, Nat.reduceBEq, Nat.reduceAdd, Nat.reduceLT, Nat.reduceLeDiff, Nat.reduceEqDiff, reduceIte, Int.reduceEq, reduceCtorEq, g0, g1, g55, g56, g57, h1]
             exact hbr _
         · simp only [go_sem, AD, AA, AC, AB, KB_n, KB_x, Nat.reduceBEq, Nat.reduceAdd, Nat.reduceLT, Nat.reduceLeDiff, Nat.reduceEqDiff, reduceIte, Int.reduceEq, reduceCtorEq]
           exact ⟨0, by omega, by simp [Cu], rfl⟩
       · have f2 : ((n.names.length : Int) ≠ (n.kids.length : Int)) = True := by simp only [ne_eq, eq_iff_iff, iff_true]; omega
         rw [decide_eq_true d1, decide_eq_false d2]
         simp only [CF, go_sem, AD, AA, AC, AB, KB_n, KB_x, Nat.reduceBEq, Nat.reduceAdd, Nat.reduceLT, Nat.reduceLeDiff, Nat.reduceEqDiff, reduceIte, Int.reduceEq, reduceCtorEq, A4, hq, hm, l0, Jg, l1, l2, hq2, hm2, d3, k1, k2, k3, k4, k5, e0, e2, f1, f2, List.length_map, Nat.zero_add]
         exact hbr _
     · have f1 : (n.text ≠ []) = True := by simp [d1]
       rw [decide_eq_false d1]
       simp only [CF, go_sem, AD, AA, AC, AB, KB_n, KB_x, Nat.reduceBEq, Nat.reduceAdd, Nat.reduceLT, Nat.reduceLeDiff, Nat.reduceEqDiff, reduceIte, Int.reduceEq, reduceCtorEq, A4, hq, hm, l0, Jg, l1, l2, hq2, hm2, d3, k1, k2, k3, k4, k5, e0, e2, f1, Nat.zero_add]
       exact hbr _
   · have e2 : ((n.kind : Int) ≠ 2) = True := by simp only [ne_eq, eq_iff_iff, iff_true]; omega
     have hbo : (ND.mk n.kind n.text [] []).Ok := .mk ho.kind ho.text.1 ho.text.2 (by simp) (by simp) (by simp) (by simp)
     have hbw : (lim prog).call Co [.agg [.i .u8 (n.kind : Nat), .s n.text, .nsl, .nsl]] q3 = some (.b (Bi (.mk n.kind n.text [] [])), q3) := by
      refine (Rr (args := [.agg [.i .u8 (n.kind : Nat), .s n.text, .nsl, .nsl]]) (args' := [.agg (ND.mk n.kind n.text [] []).cells]) JW rfl rfl ?_).trans (Rg _ hbo q3 H3.wf)
      simp [Aw, wkZ, wk, wkM, ND.cells, ND.kind, ND.text, ND.names, ND.kids, tx]
     have hsum : IntKind.i64.wrap ((n.names.length : Int) + (n.kids.length : Int)) = ((n.names.length + n.kids.length : Nat) : Int) := by
      rw [show (n.names.length : Int) + (n.kids.length : Int) = ((n.names.length + n.kids.length : Nat) : Int) by omega]
      exact CA (by omega)
     by_cases d : n.names.length + n.kids.length = 0
     · have f1 : (((n.names.length + n.kids.length : Nat) : Int) = 0) = True := by simp only [eq_iff_iff, iff_true]; omega
       have hn0 : n.names = [] := List.length_eq_zero_iff.1 (by omega)
       have hk0 : n.kids = [] := List.length_eq_zero_iff.1 (by omega)
       have : n.nd = .mk n.kind n.text [] [] := by rw [TD.nd_eq, hn0, hk0]; rfl
       rw [this]
       cases hwb : Bi (.mk n.kind n.text [] []) with
       | false =>
         rw [hwb] at hbw
         simp only [CF, go_sem, AD, AA, AC, AB, KB_n, KB_x, Nat.reduceBEq, Nat.reduceAdd, Nat.reduceLT, Nat.reduceLeDiff, Nat.reduceEqDiff, reduceIte, Int.reduceEq, reduceCtorEq, A4, hq, hm, l0, Jg, l1, l2, hq2, hm2, d3, k1, kb, e0, e2, hbw, Nat.zero_add]
         exact hbr _
       | true =>
         rw [hwb] at hbw
         simp only [CF, go_sem, AD, AA, AC, AB, KB_n, KB_x, Nat.reduceBEq, Nat.reduceAdd, Nat.reduceLT, Nat.reduceLeDiff, Nat.reduceEqDiff, reduceIte, Int.reduceEq, reduceCtorEq, A4, hq, hm, l0, Jg, l1, l2, hq2, hm2, d3, k1, k3, k4, k5, kb, e0, e2, hbw, List.length_map, hsum, f1, Nat.zero_add]
         exact hbr _
     · have f1 : (((n.names.length + n.kids.length : Nat) : Int) = 0) = False := by simp only [eq_iff_iff, iff_false]; omega
       have : Bi n.nd = false := by
        rw [Dx, FH, Ed, MS, Hy, List.length_map]
        by_cases c1 : n.kind = 1 ∨ n.kind = 3
        · rw [if_pos c1]
          by_cases g1 : n.names = []
          · have g2 : n.kids.length ≠ 0 := by intro h; exact d (by rw [g1, h]; rfl)
            simp [g2]
          · simp [g1]
        · rw [if_neg c1, if_neg c2]
       rw [this]
       cases hwb : Bi (.mk n.kind n.text [] []) with
       | false =>
         rw [hwb] at hbw
         simp only [CF, go_sem, AD, AA, AC, AB, KB_n, KB_x, Nat.reduceBEq, Nat.reduceAdd, Nat.reduceLT, Nat.reduceLeDiff, Nat.reduceEqDiff, reduceIte, Int.reduceEq, reduceCtorEq, A4, hq, hm, l0, Jg, l1, l2, hq2, hm2, d3, k1, kb, e0, e2, hbw, Nat.zero_add]
         exact hbr _
       | true =>
         rw [hwb] at hbw
         simp only [CF, go_sem, AD, AA, AC, AB, KB_n, KB_x, Nat.reduceBEq, Nat.reduceAdd, Nat.reduceLT, Nat.reduceLeDiff, Nat.reduceEqDiff, reduceIte, Int.reduceEq, reduceCtorEq, A4, hq, hm, l0, Jg, l1, l2, hq2, hm2, d3, k1, k3, k4, k5, kb, e0, e2, hbw, List.length_map, hsum, f1, Nat.zero_add]
         exact hbr _
end Go.Proofs.YtbfgoopcnkeblaaGreat

/-
  The order of places: plain facts.
-/
set_option maxRecDepth 100000
namespace Go.Proofs.YtbfgoopcnkeblaaGreat
open Go.Proofs.YtbfgoopcnkeblaaGreat.Am
theorem Kr : ∀ {a b c : List Nat}, ltN a b = true → ltN b c = true → ltN a c = true
 | [], [], _, h, _ => by simp [ltN] at h
 | _ :: _, [], _, h, _ => by simp [ltN] at h
 | _, _ :: _, [], _, h => by simp [ltN] at h
 | [], _ :: _, _ :: _, _, _ => rfl
 | a :: x, b :: y, c :: z, h1, h2 => by
   simp only [ltN, Bool.or_eq_true, Bool.and_eq_true, Nat.blt_eq, Nat.beq_eq] at h1 h2 ⊢
   rcases h1 with h1 | ⟨h1, h3⟩
   · rcases h2 with h2 | ⟨h2, _⟩
     · left; omega
     · left; omega
   · rcases h2 with h2 | ⟨h2, h4⟩
     · left; omega
     · right; exact ⟨by omega, Kr h3 h4⟩
end Go.Proofs.YtbfgoopcnkeblaaGreat

/-
  slices.BinarySearch of texts that rise.
-/
set_option maxRecDepth 100000
set_option maxHeartbeats 2000000
namespace Go.Proofs.YtbfgoopcnkeblaaGreat
open Go.Proofs.YtbfgoopcnkeblaaGreat.Am
attribute [local irreducible] W WO WE WQ WD Tr.get Tr.set
theorem VY (a : List Nat) (s : St) : (lim prog).call C9 [.s a] s = some (.b false, s) := by
 refine fn_W Ih rfl rfl ?_
 have e1 : (a ≠ a) = False := by simp
 simp only [DA, go_sem, AD, AA, AC, AB, KB_n, KB_x, Nat.reduceBEq, Nat.reduceAdd, Nat.reduceLT, Nat.reduceLeDiff, Nat.reduceEqDiff, reduceIte, Int.reduceEq, reduceCtorEq, e1]
 exact AO (Over.enter s) rfl rfl
theorem VZ (a : List Nat) (s : St) : (lim prog).call CX [.s a] s = some (.b false, s) := by
 refine fn_W Gy rfl rfl ?_
 have e1 : (a ≠ a) = False := by simp
 simp only [Ca, go_sem, AD, AA, AC, AB, KB_n, KB_x, Nat.reduceBEq, Nat.reduceAdd, Nat.reduceLT, Nat.reduceLeDiff, Nat.reduceEqDiff, reduceIte, Int.reduceEq, reduceCtorEq, e1]
 exact AO (Over.enter s) rfl rfl
theorem PK (a b : List Nat) (s : St) : (lim prog).call EC [.s a, .s b] s = some (.b (ltN a b), s) := by
 refine fn_W JG rfl rfl ?_
 simp only [DV, go_sem, AD, AA, AC, AB, KB_n, KB_x, Nat.reduceBEq, Nat.reduceAdd, Nat.reduceLT, Nat.reduceLeDiff, Nat.reduceEqDiff, reduceIte, Int.reduceEq, reduceCtorEq, VY]
 exact AO (Over.enter s) rfl rfl
def Asc (L : List (List Nat)) : Prop := ∀ {i j : Nat} {a b : List Nat}, i < j → L[i]? = some a → L[j]? = some b → ltN a b = true
structure Pos (L : List (List Nat)) (x : List Nat) (p : Nat) : Prop where
 le : p ≤ L.length
 lo : ∀ {k : Nat} {y : List Nat}, k < p → L[k]? = some y → ltN y x = true
 hi : ∀ {k : Nat} {y : List Nat}, p ≤ k → L[k]? = some y → ltN y x = false
theorem shr1 (a : Nat) : Am.binOp .shr (.i .u64 (a : Int)) (.i .u64 1) = some (.i .u64 ((a / 2 : Nat) : Int)) := by
 have : ((a : Int).fdiv 2) = ((a / 2 : Nat) : Int) := by
  rw [Int.fdiv_eq_ediv_of_nonneg _ (by omega)]; omega
 simp [Am.binOp, IntKind.bits]
 exact this
theorem wrapU {a : Nat} (h : a < 2 ^ 64) : IntKind.u64.wrap (a : Int) = (a : Int) := by
 have : ((a : Int) % 2 ^ 64) = (a : Int) := by omega
 simp only [IntKind.wrap, IntKind.signed, IntKind.bits, this]
 rfl
theorem T1 (f : List Nat → Bool) : ∀ L : List (List Nat), ∃ p, p ≤ L.length ∧ (∀ {k : Nat} {y : List Nat}, k < p → L[k]? = some y → f y = true) ∧ ∀ {y : List Nat}, L[p]? = some y → f y = false
 | [] => ⟨0, by simp, fun h => by omega, fun h => by simp at h⟩
 | a :: L => by
   cases ha : f a with
   | false => exact ⟨0, by simp, fun h => by omega, fun h => by simp only [List.getElem?_cons_zero, Option.some.injEq] at h; rw [← h]; exact ha⟩
   | true =>
     obtain ⟨p, h1, h2, h3⟩ := T1 f L
     refine ⟨p + 1, by simp; omega, fun {k y} hk hy => ?_, fun h => h3 (by simpa using h)⟩
     cases k with
     | zero => simp only [List.getElem?_cons_zero, Option.some.injEq] at hy; rw [← hy]; exact ha
     | succ k => exact h2 (k := k) (by omega) (by simpa using hy)
theorem pos_ex {L : List (List Nat)} (hasc : Asc L) (x : List Nat) : ∃ p, Pos L x p := by
 obtain ⟨p, h1, h2, h3⟩ := T1 (fun y => ltN y x) L
 refine ⟨p, h1, fun hk hy => h2 hk hy, @fun k y hk hy => ?_⟩
 by_cases hkp : k = p
 · subst hkp; exact h3 hy
 · have hlt : k < L.length := (List.getElem?_eq_some_iff.1 hy).1
   have hpk : p < k := by omega
   obtain ⟨z, hz⟩ : ∃ z, L[p]? = some z := ⟨_, List.getElem?_eq_getElem (show p < L.length by omega)⟩
   have hzy := hasc hpk hz hy
   rw [Bool.eq_false_iff]
   intro hyx
   have := Kr hzy hyx
   rw [h3 hz] at this
   cases this
theorem Pw (L : List (List Nat)) (x : List Nat) (hasc : Asc L) (hl : L.length < 2 ^ 62) (s : St) : ∃ p, Pos L x p ∧ (lim prog).call Ae [tx L, .s x] s = some (.tup [.i .i64 (p : Nat), .b (decide (L[p]? = some x))], s) := by
 have hex : ∃ p, Pos L x p := pos_ex hasc x
 obtain ⟨p, hp⟩ := hex
 refine ⟨p, hp, fn_W Dh rfl rfl ?_⟩
 simp only [BB, go_sem, AD, AA, AC, AB, KB_n, KB_x, Nat.reduceBEq, Nat.reduceAdd, Nat.reduceLT, Nat.reduceLeDiff, Nat.reduceEqDiff, reduceIte, Int.reduceEq, reduceCtorEq, List.length_map]
 refine Ba (fun n e q => q = s.enter ∧ ∃ i j : Nat, i + n = j ∧ i ≤ p ∧ p ≤ j ∧ j ≤ L.length ∧ e.get 0 = tx L ∧ e.get 1 = .s x ∧ e.get 6 = .i .i64 (L.length : Nat) ∧ e.get 7 = .i .i64 (i : Nat) ∧ e.get 8 = .i .i64 (j : Nat)) ?_ L.length _ _ ?_
 · rintro n e q ⟨rfl, i, j, hij, hip, hpj, hj, g0, g1, g6, g7, g8⟩
   by_cases h : i < j
   · have e1 : ((i : Int) < (j : Int)) = True := by simp only [eq_iff_iff, iff_true]; omega
     have hs1 : IntKind.i64.wrap ((i : Int) + (j : Int)) = ((i + j : Nat) : Int) := by
      rw [show (i : Int) + (j : Int) = ((i + j : Nat) : Int) by omega]; exact CA (by omega)
     have hs2 := wrapU (show i + j < 2 ^ 64 by omega)
     have hs3 := CA (show (i + j) / 2 < 2 ^ 63 by omega)
     obtain ⟨m, hm⟩ : ∃ m, (i + j) / 2 = m := ⟨_, rfl⟩
     rw [hm] at hs3
     obtain ⟨y, hy⟩ : ∃ y, L[m]? = some y := ⟨_, List.getElem?_eq_getElem (by omega)⟩
     have hy2 : (L.map AV.s)[m]? = some (.s y) := by rw [List.getElem?_map, hy]; rfl
     have hw1 := Af (show m + 1 < 2 ^ 63 by omega)
     have hsh := shr1 (i + j)
     rw [hm] at hsh
     cases hlt : ltN y x with
     | true =>
       have : m < p := by
        refine Nat.lt_of_not_le fun hh => ?_
        have := hp.hi hh hy
        rw [hlt] at this; cases this
       simp only [go_sem, AD, AA, AC, AB, KB_n, KB_x, Nat.reduceBEq, Nat.reduceAdd, Nat.reduceLT, Nat.reduceLeDiff, Nat.reduceEqDiff, reduceIte, Int.reduceEq, reduceCtorEq, g0, g1, g6, g7, g8, e1, hs1, hs2, hsh, hs3, AI, hy2, BD, Cf, PK, hlt, hw1]
       exact ⟨j - (m + 1), by omega, m + 1, j, by omega, by omega, by omega, hj, rfl, rfl⟩
     | false =>
       have : p ≤ m := by
        refine Nat.le_of_not_lt fun hh => ?_
        have := hp.lo hh hy
        rw [hlt] at this; cases this
       simp only [go_sem, AD, AA, AC, AB, KB_n, KB_x, Nat.reduceBEq, Nat.reduceAdd, Nat.reduceLT, Nat.reduceLeDiff, Nat.reduceEqDiff, reduceIte, Int.reduceEq, reduceCtorEq, g0, g1, g6, g7, g8, e1, hs1, hs2, hsh, hs3, AI, hy2, BD, Cf, PK, hlt]
       exact ⟨m - i, by omega, i, m, by omega, by omega, by omega, by omega, rfl, rfl⟩
   · have e1 : ((i : Int) < (j : Int)) = False := by simp only [eq_iff_iff, iff_false]; omega
     obtain rfl : i = p := by omega
     have hbr : ∀ b, KR s [.id, .id] (.tup [.i .i64 (i : Nat), .b b]) (some ([.i .i64 (i : Nat), .b b], s.enter)) := fun b => AO (Over.enter s) rfl rfl
     by_cases h2 : i < L.length
     · have e2 : ((i : Int) < (L.length : Int)) = True := by simp only [eq_iff_iff, iff_true]; omega
       obtain ⟨y, hy⟩ : ∃ y, L[i]? = some y := ⟨_, List.getElem?_eq_getElem h2⟩
       have hy2 : (L.map AV.s)[i]? = some (.s y) := by rw [List.getElem?_map, hy]; rfl
       by_cases h3 : y = x
       · have e3 : (y = x) = True := by simp [h3]
         rw [decide_eq_true (by rw [hy, h3] : L[i]? = some x)]
         simp only [go_sem, AD, AA, AC, AB, KB_n, KB_x, Nat.reduceBEq, Nat.reduceAdd, Nat.reduceLT, Nat.reduceLeDiff, Nat.reduceEqDiff, reduceIte, Int.reduceEq, reduceCtorEq, g0, g1, g6, g7, g8, e1, e2, AI, hy2, BD, Cf, e3]
         exact hbr _
       · have e3 : (y = x) = False := by simp [h3]
         rw [decide_eq_false (by rw [hy]; simpa using h3 : ¬ L[i]? = some x)]
         simp only [go_sem, AD, AA, AC, AB, KB_n, KB_x, Nat.reduceBEq, Nat.reduceAdd, Nat.reduceLT, Nat.reduceLeDiff, Nat.reduceEqDiff, reduceIte, Int.reduceEq, reduceCtorEq, g0, g1, g6, g7, g8, e1, e2, AI, hy2, BD, Cf, e3, VZ]
         exact hbr _
     · have e2 : ((i : Int) < (L.length : Int)) = False := by simp only [eq_iff_iff, iff_false]; omega
       rw [decide_eq_false (by rw [List.getElem?_eq_none (by omega)]; simp : ¬ L[i]? = some x)]
       simp only [go_sem, AD, AA, AC, AB, KB_n, KB_x, Nat.reduceBEq, Nat.reduceAdd, Nat.reduceLT, Nat.reduceLeDiff, Nat.reduceEqDiff, reduceIte, Int.reduceEq, reduceCtorEq, g0, g1, g6, g7, g8, e1, e2]
       exact hbr _
 · simp only [go_sem, AD, AA, AC, AB, KB_n, KB_x, Nat.reduceBEq, Nat.reduceAdd, Nat.reduceLT, Nat.reduceLeDiff, Nat.reduceEqDiff, reduceIte, Int.reduceEq, reduceCtorEq]
   have := hp.le
   exact ⟨0, L.length, by omega, by omega, by omega, by omega, rfl, rfl⟩
end Go.Proofs.YtbfgoopcnkeblaaGreat

/-
  ftree.find.
-/
set_option maxRecDepth 100000
set_option maxHeartbeats 2000000
namespace Go.Proofs.YtbfgoopcnkeblaaGreat
open Go.Proofs.YtbfgoopcnkeblaaGreat.Am
theorem Kq : ∀ (p : Option (List Nat)) (ns : List (List Nat)) (ks : List ND), ns.length = ks.length → Cu p ns ks = true →
    (∀ {i : Nat} {k : ND}, ks[i]? = some k → Bi k = true) ∧ (∀ {i : Nat} {s : List Nat}, ns[i]? = some s → Db s = true) ∧ (∀ q, p = some q → ∀ {i : Nat} {s : List Nat}, ns[i]? = some s → ltN q s = true) ∧ Asc ns
 | p, [], [], _, _ => ⟨fun h => by simp at h, fun h => by simp at h, fun _ _ _ _ h => by simp at h, fun _ h => by simp at h⟩
 | p, a :: ns, b :: ks, hl, h => by
   simp only [Cu, Bool.and_eq_true] at h
   obtain ⟨h1, h2, h3, h4⟩ := h
   obtain ⟨k1, k2, k3, k4⟩ := Kq (some a) ns ks (by simpa using hl) h4
   refine ⟨@fun i k hk => ?_, @fun i s hs => ?_, fun q hq => @fun i s hs => ?_, @fun i j x y hij hx hy => ?_⟩
   · cases i with
     | zero => simp only [List.getElem?_cons_zero, Option.some.injEq] at hk; rw [← hk]; exact h3
     | succ i => exact k1 (i := i) (by simpa using hk)
   · cases i with
     | zero => simp only [List.getElem?_cons_zero, Option.some.injEq] at hs; rw [← hs]; exact h1
     | succ i => exact k2 (i := i) (by simpa using hs)
   · subst hq
     have h2 : ltN q a = true := h2
     cases i with
     | zero => simp only [List.getElem?_cons_zero, Option.some.injEq] at hs; rw [← hs]; exact h2
     | succ i => exact Kr h2 (k3 a rfl (i := i) (by simpa using hs))
   · cases j with
     | zero => omega
     | succ j =>
       have hy : ns[j]? = some y := by simpa using hy
       cases i with
       | zero => simp only [List.getElem?_cons_zero, Option.some.injEq] at hx; rw [← hx]; exact k3 a rfl hy
       | succ i => exact k4 (i := i) (j := j) (by omega) (by simpa using hx) hy
 | _, [], _ :: _, hl, _ => by simp at hl
 | _, _ :: _, [], hl, _ => by simp at hl
structure WellD (n : ND) : Prop where
 len : n.names.length = n.kids.length
 kid : ∀ {i : Nat} {k : ND}, n.kids[i]? = some k → Bi k = true
 name : ∀ {i : Nat} {s : List Nat}, n.names[i]? = some s → Db s = true
 asc : Asc n.names
theorem wellD {n : ND} (h : Bi n = true) : WellD n := by
 rw [Dx] at h
 split at h
 · simp only [Bool.and_eq_true, decide_eq_true_eq] at h
   obtain ⟨h1, h2, _⟩ := h
   have h2 : n.kids = [] := List.length_eq_zero_iff.1 h2
   exact ⟨by rw [h1, h2]; rfl, fun h => by rw [h2] at h; simp at h, fun h => by rw [h1] at h; simp at h, fun _ h => by rw [h1] at h; simp at h⟩
 · split at h
   · simp only [Bool.and_eq_true, decide_eq_true_eq] at h
     obtain ⟨_, h2, h3⟩ := h
     obtain ⟨k1, k2, _, k4⟩ := Kq none _ _ h2 h3
     exact ⟨h2, k1, k2, k4⟩
   · cases h
def noN : ND := .mk 0 [] [] []
theorem OC : ∀ a : List Nat, ltN a a = false
 | [] => rfl
 | c :: a => by
   have : Nat.blt c c = false := by rw [Bool.eq_false_iff]; intro h; rw [Nat.blt_eq] at h; omega
   simp only [ltN, this, OC a, Bool.and_false, Bool.or_self]
end Go.Proofs.YtbfgoopcnkeblaaGreat
