/-
  The order of places: plain facts.
-/
import Derived.Test.YtmeahkccilkofaaDoorLPath
set_option linter.all false
set_option linter.unusedVariables false
set_option linter.unusedSimpArgs false
set_option linter.unusedSectionVars false
set_option maxRecDepth 100000
namespace Go.Proofs.YtmeahkccilkofaaDoor
open Go.Proofs.YtmeahkccilkofaaDoor.Am

theorem ltN_irrefl : ∀ a : List Nat, ltN a a = false
  | [] => rfl
  | a :: l => by
    have : Nat.blt a a = false := by rw [Bool.eq_false_iff]; intro h; rw [Nat.blt_eq] at h; omega
    simp [ltN, ltN_irrefl l, this]
theorem ltN_trans : ∀ {a b c : List Nat}, ltN a b = true → ltN b c = true → ltN a c = true
  | [], [], _, h, _ => by simp [ltN] at h
  | _ :: _, [], _, h, _ => by simp [ltN] at h
  | _, _ :: _, [], _, h => by simp [ltN] at h
  | [], _ :: _, _ :: _, _, _ => rfl
  | a :: x, b :: y, c :: z, h1, h2 => by
    simp only [ltN, Bool.or_eq_true, Bool.and_eq_true, Nat.blt_eq, Nat.beq_eq] at h1 h2 ⊢
    rcases h1 with h1 | ⟨h1, h3⟩
    · rcases h2 with h2 | ⟨h2, _⟩
      · left; omega
      · left; omega
    · rcases h2 with h2 | ⟨h2, h4⟩
      · left; omega
      · right; exact ⟨by omega, ltN_trans h3 h4⟩
theorem ltN_tri : ∀ {a b : List Nat}, ltN a b = false → a ≠ b → ltN b a = true
  | [], [], _, h => absurd rfl h
  | [], _ :: _, h, _ => by simp [ltN] at h
  | _ :: _, [], _, _ => rfl
  | a :: x, b :: y, h, hn => by
    have h' : ¬ (ltN (a :: x) (b :: y) = true) := by simp [h]
    simp only [ltN, Bool.or_eq_true, Bool.and_eq_true, Nat.blt_eq, Nat.beq_eq] at h' ⊢
    by_cases hab : a = b
    · subst hab
      right
      refine ⟨rfl, ltN_tri (by cases hx : ltN x y with | false => rfl | true => exact absurd (.inr ⟨rfl, hx⟩) h') fun hh => hn (by rw [hh])⟩
    · left
      have : ¬ a < b := fun hh => h' (.inl hh)
      omega

theorem cmpS_zero {a b : List Nat} : cmpS a b = 0 ↔ a = b := by
  unfold cmpS
  by_cases h : ltN a b = true
  · simp only [if_pos h]
    refine ⟨fun hh => by omega, fun hh => ?_⟩
    subst hh; rw [ltN_irrefl] at h; cases h
  · simp only [if_neg h]
    by_cases he : a = b <;> simp [he]
theorem cmpS_neg {a b : List Nat} : cmpS a b < 0 ↔ ltN a b = true := by
  unfold cmpS
  by_cases h : ltN a b = true
  · simp [h]
  · simp only [if_neg h, iff_false]
    by_cases he : a = b
    · subst he; simp [ltN_irrefl]
    · simp [he, h]
theorem cmpS_pos {a b : List Nat} : 0 < cmpS a b ↔ ltN b a = true := by
  unfold cmpS
  by_cases h : ltN a b = true
  · simp only [if_pos h]
    refine ⟨fun hh => by omega, fun hh => ?_⟩
    have := ltN_trans h hh; rw [ltN_irrefl] at this; cases this
  · simp only [if_neg h]
    by_cases he : a = b
    · subst he; simp [ltN_irrefl]
    · simp only [if_neg he]
      refine ⟨fun _ => ltN_tri (by simpa using h) he, fun _ => by omega⟩

theorem cmpT_zero : ∀ {L M : List (List Nat)}, cmpT L M = 0 ↔ L = M
  | [], [] => by simp [cmpT]
  | [], _ :: _ => by simp [cmpT]
  | _ :: _, [] => by simp [cmpT]
  | a :: L, b :: M => by
    simp only [cmpT]
    by_cases h : cmpS a b = 0
    · rw [if_pos h, cmpT_zero, cmpS_zero.1 h]; simp
    · rw [if_neg h]
      refine ⟨fun hh => absurd hh h, fun hh => ?_⟩
      cases hh; exact absurd (cmpS_zero.2 rfl) h
theorem cmpT_anti : ∀ {L M : List (List Nat)}, (cmpT L M < 0 ↔ 0 < cmpT M L)
  | [], [] => by simp [cmpT]
  | [], _ :: _ => by simp [cmpT]
  | _ :: _, [] => by simp [cmpT]
  | a :: L, b :: M => by
    simp only [cmpT]
    by_cases h : cmpS a b = 0
    · have := cmpS_zero.1 h
      subst this
      rw [if_pos h, if_pos h, cmpT_anti]
    · have h2 : ¬ cmpS b a = 0 := fun hh => h (cmpS_zero.2 (cmpS_zero.1 hh).symm)
      rw [if_neg h, if_neg h2, cmpS_neg, cmpS_pos]
theorem cmpT_trans : ∀ {L M N : List (List Nat)}, cmpT L M < 0 → cmpT M N < 0 → cmpT L N < 0
  | [], [], _, h, _ => by simp [cmpT] at h
  | _ :: _, [], _, h, _ => by simp [cmpT] at h
  | _, _ :: _, [], _, h => by simp [cmpT] at h
  | [], _ :: _, _ :: _, _, _ => by simp [cmpT]
  | a :: L, b :: M, c :: N, h1, h2 => by
    simp only [cmpT] at h1 h2 ⊢
    by_cases e1 : cmpS a b = 0
    · rw [if_pos e1] at h1
      have := cmpS_zero.1 e1
      subst this
      by_cases e2 : cmpS a c = 0
      · rw [if_pos e2] at h2 ⊢; exact cmpT_trans h1 h2
      · rw [if_neg e2] at h2 ⊢; exact h2
    · rw [if_neg e1] at h1
      by_cases e2 : cmpS b c = 0
      · have := cmpS_zero.1 e2
        subst this
        rw [if_neg e1]; exact h1
      · rw [if_neg e2] at h2
        have h3 := ltN_trans (cmpS_neg.1 h1) (cmpS_neg.1 h2)
        have h4 := cmpS_neg.2 h3
        rw [if_neg (by omega)]; exact h4
theorem und_trans {L M N : List (List Nat)} (h1 : undP L M = true) (h2 : undP M N = true) : undP L N = true := by
  simp only [undP, decide_eq_true_eq] at h1 h2 ⊢
  have := und_len h1
  have h3 : (N.take M.length).take L.length = N.take L.length := by rw [List.take_take]; congr 1; omega
  rw [← h3, h2, h1]
theorem und_cmp : ∀ {L N : List (List Nat)}, N.take L.length = L → ¬ cmpT N L < 0
  | [], [], _ => by simp [cmpT]
  | [], _ :: _, _ => by simp [cmpT]
  | _ :: _, [], h => by simp at h
  | a :: L, b :: N, h => by
    simp only [List.length_cons, List.take_succ_cons, List.cons.injEq] at h
    obtain ⟨rfl, h⟩ := h
    simp only [cmpT, if_pos (cmpS_zero.2 rfl)]
    exact und_cmp h

theorem less_irrefl (L : List (List Nat)) : lessP L L = false := by simp [lessP, cmpT_zero.2]
theorem less_trans {L M N : List (List Nat)} (h1 : lessP L M = true) (h2 : lessP M N = true) : lessP L N = true := by
  simp only [lessP, decide_eq_true_eq] at *
  exact cmpT_trans h1 h2
theorem less_tri (L M : List (List Nat)) : (lessP L M = true ∧ lessP M L = false ∧ sameP L M = false) ∨ (lessP L M = false ∧ lessP M L = true ∧ sameP L M = false) ∨ (lessP L M = false ∧ lessP M L = false ∧ sameP L M = true) := by
  have h1 := @cmpT_anti L M
  have h2 := @cmpT_anti M L
  have h3 := @cmpT_zero L M
  simp only [lessP, sameP, decide_eq_true_eq, decide_eq_false_iff_not]
  by_cases h : L = M
  · have := h3.2 h
    subst h
    right; right
    exact ⟨by omega, by omega, rfl⟩
  · have hz : ¬ cmpT L M = 0 := fun hh => h (h3.1 hh)
    by_cases hl : cmpT L M < 0
    · left; exact ⟨hl, by have := h1.1 hl; omega, h⟩
    · right; left
      have : cmpT M L < 0 := h2.2 (by omega)
      exact ⟨hl, this, h⟩
theorem und_less {L N : List (List Nat)} (h : undP L N = true) : lessP N L = false := by
  simp only [undP, decide_eq_true_eq] at h
  simp only [lessP, decide_eq_false_iff_not]
  exact und_cmp h
end Go.Proofs.YtmeahkccilkofaaDoor
