/-
  Values and states, compared cell by cell.
-/
import Derived.Test.YtfaodjpibdhdjaaDoorAmComp
set_option linter.all false
set_option linter.unusedVariables false
set_option linter.unusedSimpArgs false
set_option linter.unusedSectionVars false
set_option linter.constructorNameAsVariable false
namespace Go.Proofs.YtfaodjpibdhdjaaDoor.Am
mutual
theorem beqA_eq : ∀ (a b : AV), beqA a b = true → a = b
  | .b x, b, h => by cases b <;> simp_all [beqA]
  | .i k n, b, h => by cases b <;> simp_all [beqA]
  | .s l, b, h => by
    cases b <;> simp only [beqA] at h <;> try (cases h; done)
    rw [beqN_eq h]
  | .np, b, h => by cases b <;> simp_all [beqA]
  | .p x o, b, h => by
    cases b <;> simp only [beqA] at h <;> try (cases h; done)
    rw [Bool.and_eq_true] at h
    rw [Nat.eq_of_beq_eq_true h.1, Nat.eq_of_beq_eq_true h.2]
  | .ep l o c, b, h => by
    cases b <;> simp only [beqA] at h <;> try (cases h; done)
    rw [Bool.and_eq_true, Bool.and_eq_true] at h
    rw [beqAL_eq l _ h.1, Nat.eq_of_beq_eq_true h.2.1, of_decide_eq_true h.2.2]
  | .nsl, b, h => by cases b <;> simp_all [beqA]
  | .wz, b, h => by cases b <;> simp_all [beqA]
  | .sl e l c, b, h => by
    cases b <;> simp only [beqA] at h <;> try (cases h; done)
    rw [Bool.and_eq_true, Bool.and_eq_true] at h
    rw [beqAL_eq l _ h.2.1, Nat.eq_of_beq_eq_true h.1, of_decide_eq_true h.2.2]
  | .ws f e l, b, h => by
    cases b <;> simp only [beqA] at h <;> try (cases h; done)
    rw [Bool.and_eq_true, Bool.and_eq_true] at h
    rw [beqAL_eq l _ h.2.2, Nat.eq_of_beq_eq_true h.2.1, eq_of_beq h.1]
  | .bl i e o n x, b, h => by
    cases b <;> simp only [beqA] at h <;> try (cases h; done)
    simp only [Bool.and_eq_true] at h
    obtain ⟨h1, h2, h3, h4, h5, h6⟩ := h
    rw [Nat.eq_of_beq_eq_true h1, Nat.eq_of_beq_eq_true h2, Nat.eq_of_beq_eq_true h3, Nat.eq_of_beq_eq_true h4, show x = _ from Prod.ext (Nat.eq_of_beq_eq_true h5) (eq_of_beq h6)]
  | .sd l k v, b, h => by
    cases b <;> simp only [beqA] at h <;> try (cases h; done)
    rw [Bool.and_eq_true, Bool.and_eq_true] at h
    rw [beqAL_eq l _ h.1, Nat.eq_of_beq_eq_true h.2.1, Nat.eq_of_beq_eq_true h.2.2]
  | .nm, b, h => by cases b <;> simp_all [beqA]
  | .m x, b, h => by
    cases b <;> simp only [beqA] at h <;> try (cases h; done)
    rw [Nat.eq_of_beq_eq_true h]
  | .nf, b, h => by cases b <;> simp_all [beqA]
  | .fn f l, b, h => by
    cases b <;> simp only [beqA] at h <;> try (cases h; done)
    rw [Bool.and_eq_true] at h
    rw [beqAL_eq l _ h.2, Nat.eq_of_beq_eq_true h.1]
  | .yld x, b, h => by
    cases b <;> simp only [beqA] at h <;> try (cases h; done)
    rw [Nat.eq_of_beq_eq_true h]
  | .ni, b, h => by cases b <;> simp_all [beqA]
  | .ifc t v, b, h => by
    cases b <;> simp only [beqA] at h <;> try (cases h; done)
    rw [Bool.and_eq_true] at h
    rw [beqA_eq v _ h.2, Nat.eq_of_beq_eq_true h.1]
  | .agg l, b, h => by
    cases b <;> simp only [beqA] at h <;> try (cases h; done)
    rw [beqAL_eq l _ h]
  | .tup l, b, h => by
    cases b <;> simp only [beqA] at h <;> try (cases h; done)
    rw [beqAL_eq l _ h]
  | .any, b, h => by cases b <;> simp_all [beqA]
  | .ige n, b, h => by
    cases b <;> simp only [beqA] at h <;> try (cases h; done)
    rw [Nat.eq_of_beq_eq_true h]
  | .mth n v, b, h => by
    cases b <;> simp only [beqA] at h <;> try (cases h; done)
    rw [Bool.and_eq_true] at h
    rw [beqA_eq v _ h.2, beqN_eq h.1]
theorem beqAL_eq : ∀ (l m : List AV), beqAL l m = true → l = m
  | [], m, h => by cases m <;> simp_all [beqAL]
  | x :: l, m, h => by
    cases m <;> simp only [beqAL] at h <;> try (cases h; done)
    rw [Bool.and_eq_true] at h
    rw [beqA_eq x _ h.1, beqAL_eq l _ h.2]
end

theorem beqM_eq : ∀ {a b : List (AV × AV)}, beqM a b = true → a = b
  | [], [], _ => rfl
  | (a, b) :: l, (a', b') :: l', h => by
    simp only [beqM, Bool.and_eq_true] at h
    rw [beqA_eq _ _ h.1, beqA_eq _ _ h.2.1, beqM_eq h.2.2]
  | [], _ :: _, h => by simp [beqM] at h
  | _ :: _, [], h => by simp [beqM] at h
theorem beqBox_eq : ∀ {a b : Box}, beqBox a b = true → a = b := by
  intro a b h
  cases a <;> cases b <;> simp only [beqBox, Bool.and_eq_true] at h <;> try (cases h; done)
  · rw [Nat.eq_of_beq_eq_true h.1, beqAL_eq _ _ h.2]
  · rw [beqM_eq h]
  · rw [beqN_eq h.1, Nat.eq_of_beq_eq_true h.2]
  · rw [Nat.eq_of_beq_eq_true h.1, beqAL_eq _ _ h.2.1, eq_of_beq h.2.2.1, Nat.eq_of_beq_eq_true h.2.2.2]
  · rfl
theorem beqBL_eq : ∀ {a b : List Box}, beqBL a b = true → a = b
  | [], [], _ => rfl
  | a :: l, b :: m, h => by
    simp only [beqBL, Bool.and_eq_true] at h
    rw [beqBox_eq h.1, beqBL_eq h.2]
  | [], _ :: _, h => by simp [beqBL] at h
  | _ :: _, [], h => by simp [beqBL] at h
theorem beqO_eq : ∀ {a b : Option Nat}, beqO a b = true → a = b
  | none, none, _ => rfl
  | some a, some b, h => by simp only [beqO] at h; rw [Nat.eq_of_beq_eq_true h]
  | none, some _, h => by simp [beqO] at h
  | some _, none, h => by simp [beqO] at h
theorem beqTL_eq : ∀ {a b : List (Option Tok)}, beqTL a b = true → a = b
  | [], [], _ => rfl
  | none :: l, none :: m, h => by simp only [beqTL] at h; rw [beqTL_eq h]
  | none :: _, some _ :: _, h => by simp [beqTL] at h
  | some _ :: _, none :: _, h => by simp [beqTL] at h
  | some ⟨a1, a2, a3, a4⟩ :: l, some ⟨b1, b2, b3, b4⟩ :: m, h => by
    simp only [beqTL, Bool.and_eq_true] at h
    obtain ⟨⟨h1, h2, h3, h4⟩, h5⟩ := h
    rw [Nat.eq_of_beq_eq_true h1, Nat.eq_of_beq_eq_true h2, Nat.eq_of_beq_eq_true h3, beqO_eq h4, beqTL_eq h5]
  | [], _ :: _, h => by simp [beqTL] at h
  | _ :: _, [], h => by simp [beqTL] at h
theorem beqSt_eq : ∀ {a b : St}, beqSt a b = true → a = b
  | ⟨a1, a2, a3, a4, a5⟩, ⟨b1, b2, b3, b4, b5⟩, h => by
    simp only [beqSt, Bool.and_eq_true] at h
    obtain ⟨h1, h2, h3, h4, h5⟩ := h
    rw [Nat.eq_of_beq_eq_true h1, Nat.eq_of_beq_eq_true h2, Nat.eq_of_beq_eq_true h3, beqBL_eq h4, beqTL_eq h5]

end Go.Proofs.YtfaodjpibdhdjaaDoor.Am
