/-
  What facts, splits and numbers that are handed in read as. (Types' numbers: the seat of r9.)
-/
import Derived.Test.YtgloinighjdhlaaAmHpI
import Derived.Test.YtgloinighjdhlaaLForkG
import Derived.Test.YtgloinighjdhlaaProg
import Derived.KernelRfl
set_option linter.all false
set_option linter.unusedVariables false
set_option linter.unusedSimpArgs false
set_option linter.unusedSectionVars false
set_option maxRecDepth 100000
namespace Go.Proofs.Ytgloinighjdhlaa
open Go.Proofs.Ytgloinighjdhlaa.Am Go.Proofs
theorem readable : readAll Try.prog [3, 4, 5, 9, 22, 32, 36, 37, 44, 45, 47, 60] = true := by kernel_rfl
theorem rc9 : Try.prog.cellsOf 9 = 1 := by kernel_rfl
theorem rc3 : Try.prog.cellsOf 3 = 1 := by kernel_rfl
theorem rc60 : Try.prog.cellsOf 60 = 6 := by kernel_rfl
theorem rc32 : Try.prog.cellsOf 32 = 2 := by kernel_rfl
theorem ru22 : Try.prog.underlying 22 = some (.slice 60) := by kernel_rfl
theorem ru36 : Try.prog.underlying 36 = some (.slice 32) := by kernel_rfl
theorem ru37 : Try.prog.underlying 37 = some (.slice 3) := by kernel_rfl
theorem ru44 : Try.prog.underlying 44 = some (.slice 9) := by kernel_rfl
theorem ru9 : Try.prog.underlying 9 = some .string := by kernel_rfl
theorem ru5 : Try.prog.underlying 5 = some (.int .u8) := by kernel_rfl
theorem ru3 : Try.prog.underlying 3 = some (.int .i64) := by kernel_rfl
theorem ru4 : Try.prog.underlying 4 = some .bool := by kernel_rfl
theorem szV_pos (a : AV) : 1 ≤ szV a := by cases a <;> simp [szV]
theorem len_szL : ∀ L : List AV, L.length ≤ szL L
  | [] => Nat.le_refl _
  | a :: L => by
    have h1 := szV_pos a
    have := len_szL L
    simp only [List.length_cons, szL]; omega
theorem mem_szL {a : AV} : ∀ {L : List AV}, a ∈ L → szV a ≤ szL L
  | [], h => by simp at h
  | b :: L, h => by
    simp only [szL]
    rcases List.mem_cons.1 h with rfl | h
    · omega
    · have := mem_szL h; omega
theorem typed_ints {P : Program} {t e : Nat} {l : List AV} (hu : P.underlying t = some (.slice e)) (he : P.underlying e = some (.int .i64)) (hc : P.cellsOf e = 1) (h : Typed P t l) : ∃ L : List Int, l = [zx L] := by
  obtain ⟨ls, rfl, h1, h2⟩ := typed_slice hu h
  obtain ⟨L, k1, k2, k3⟩ := typed_map (f := iv) (Q := fun _ => True) (fun l h => by
    obtain ⟨x, rfl, hx⟩ := typed_int he h
    exact ⟨x, mkV_one (fun fs hh => by rw [he] at hh; cases hh) _, trivial⟩) ls h2
  exact ⟨L, by rw [hc, k1]; rfl⟩
theorem read_fact {l : List AV} (h : szV (mkV Try.prog 60 l) < 2 ^ 30) (ht : Typed Try.prog 60 l) : ∃ f : FT, mkV Try.prog 60 l = f.av ∧ f.Ok := by
  have hF := typed_struct Try.underlying60 ht
  rw [mkV_struct Try.underlying60] at h ⊢
  obtain ⟨a, r, rfl, h1, hF⟩ := typedF_cons hF
  obtain ⟨b, r, rfl, h2, hF⟩ := typedF_cons hF
  obtain ⟨c, r, rfl, h3, hF⟩ := typedF_cons hF
  obtain ⟨d, r, rfl, h4, hF⟩ := typedF_cons hF
  obtain ⟨e, r, rfl, h5, hF⟩ := typedF_cons hF
  obtain ⟨f, r, rfl, h6, hF⟩ := typedF_cons hF
  obtain rfl := typedF_nil hF
  obtain ⟨kn, rfl⟩ := typed_bool ru4 h1
  obtain ⟨k, rfl, hk⟩ := typed_int ru5 h2
  obtain ⟨ns, rfl, hn1, hn2⟩ := typed_strs ru44 ru9 rc9 h3
  obtain ⟨ks, rfl⟩ := typed_ints ru37 ru3 rc3 h4
  obtain ⟨re, rfl, _⟩ := typed_int ru3 h5
  obtain ⟨be, rfl, _⟩ := typed_int ru3 h6
  simp only [Lit.wf, Bool.and_eq_true, decide_eq_true_eq] at hk
  have e1 : IntKind.u8.min = 0 := rfl
  have e2 : IntKind.u8.max = 255 := rfl
  rw [e1, e2] at hk
  simp only [List.cons_append, List.nil_append, szV, szL, zx] at h
  have hnl := len_szL (ns.map AV.s)
  have hkl := len_szL (ks.map iv)
  rw [List.length_map] at hnl hkl
  refine ⟨⟨kn, k.toNat, ns, ks, re, be⟩, ?_, ⟨?_, ?_, ?_, ?_⟩⟩
  · simp only [FT.av, FT.cells, List.cons_append, List.nil_append]
    rw [show ((k.toNat : Nat) : Int) = k by omega]
  · simp only; omega
  · intro x hx
    have := mem_szL (List.mem_map.2 ⟨x, hx, rfl⟩ : AV.s x ∈ ns.map AV.s)
    simp only [szV] at this
    exact ⟨hn2 x hx, by omega⟩
  · simp only; omega
  · simp only; omega
theorem typed_mapS {P : Program} {e : Nat} {α : Type} {f : α → AV} {Q : α → Prop} {N : Nat} (h : ∀ l, Typed P e l → szV (mkV P e l) < N → ∃ a, mkV P e l = f a ∧ Q a) : ∀ ls : List (List AV), (∀ l ∈ ls, Typed P e l) → szL (ls.map (mkV P e)) < N → ∃ L : List α, ls.map (mkV P e) = L.map f ∧ L.length = ls.length ∧ ∀ a ∈ L, Q a
  | [], _, _ => ⟨[], rfl, rfl, by simp⟩
  | x :: ls, hl, hs => by
    simp only [List.map_cons, szL] at hs
    obtain ⟨a, h1, h2⟩ := h x (hl x (by simp)) (by omega)
    obtain ⟨L, k1, k2, k3⟩ := typed_mapS h ls (fun l hm => hl l (by simp [hm])) (by omega)
    refine ⟨a :: L, by simp [h1, k1], by simp [k2], fun b hb => ?_⟩
    rcases List.mem_cons.1 hb with rfl | hb
    · exact h2
    · exact k3 b hb
theorem read_facts {l : List AV} (h : szV (mkV Try.prog 22 l) < 2 ^ 30) (ht : Typed Try.prog 22 l) : ∃ L : List FT, mkV Try.prog 22 l = fx L ∧ (∀ f ∈ L, f.Ok) ∧ L.length < 2 ^ 30 := by
  obtain ⟨ls, rfl, h1, h2⟩ := typed_slice ru22 ht
  rw [mkV_one (fun fs hh => by rw [ru22] at hh; cases hh)] at h ⊢
  simp only [szV] at h
  obtain ⟨L, k1, k2, k3⟩ := typed_mapS (N := 2 ^ 30) (fun l ht hs => read_fact hs ht) ls h2 (by omega)
  have := len_szL (ls.map (mkV Try.prog 60))
  rw [List.length_map] at this
  exact ⟨L, by rw [rc60, k1]; rfl, k3, by omega⟩
theorem read_factsU {l : List AV} (h : szV (mkV Try.prog 22 l) ≤ 1048576) (ht : Typed Try.prog 22 l) : ∃ L : List FT, mkV Try.prog 22 l = fx L ∧ (∀ f ∈ L, f.Ok) ∧ L.length < 2 ^ 30 := read_facts (by omega) ht
theorem read_splitsU {l : List AV} (_ : szV (mkV Try.prog 36 l) ≤ 1048576) (ht : Typed Try.prog 36 l) : ∃ L : List (Int × Bool), mkV Try.prog 36 l = sx L ∧ True := by
  obtain ⟨ls, rfl, h1, h2⟩ := typed_slice ru36 ht
  rw [mkV_one (fun fs hh => by rw [ru36] at hh; cases hh)]
  obtain ⟨L, k1, k2, k3⟩ := typed_map (f := spl) (Q := fun _ => True) (fun l h => by
    have hF := typed_struct Try.underlying32 h
    rw [mkV_struct Try.underlying32]
    obtain ⟨a, r, rfl, h1, hF⟩ := typedF_cons hF
    obtain ⟨b, r, rfl, h2, hF⟩ := typedF_cons hF
    obtain rfl := typedF_nil hF
    obtain ⟨n, rfl, _⟩ := typed_int ru3 h1
    obtain ⟨x, rfl⟩ := typed_bool ru4 h2
    exact ⟨(n, x), rfl, trivial⟩) ls h2
  exact ⟨L, by rw [rc32, k1]; rfl, trivial⟩
theorem read_intsU {l : List AV} (_ : szV (mkV Try.prog 37 l) ≤ 1048576) (ht : Typed Try.prog 37 l) : ∃ L : List Int, mkV Try.prog 37 l = zx L ∧ True := by
  obtain ⟨L, rfl⟩ := typed_ints ru37 ru3 rc3 ht
  exact ⟨L, mkV_one (fun fs hh => by rw [ru37] at hh; cases hh) _, trivial⟩
theorem read_boolU {l : List AV} (_ : szV (mkV Try.prog 4 l) ≤ 1048576) (ht : Typed Try.prog 4 l) : ∃ b : Bool, mkV Try.prog 4 l = .b b ∧ True := by
  obtain ⟨b, rfl⟩ := typed_bool ru4 ht
  exact ⟨b, mkV_one (fun fs hh => by rw [ru4] at hh; cases hh) _, trivial⟩
end Go.Proofs.Ytgloinighjdhlaa
