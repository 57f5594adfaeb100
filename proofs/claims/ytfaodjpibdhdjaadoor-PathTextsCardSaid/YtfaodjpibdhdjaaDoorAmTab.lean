/-
  A table of functions by number.
-/
import Derived.Test.YtfaodjpibdhdjaaDoorAmDefs
set_option linter.all false
set_option linter.unusedVariables false
set_option linter.unusedSimpArgs false
set_option linter.unusedSectionVars false
set_option linter.constructorNameAsVariable false
namespace Go.Proofs.YtfaodjpibdhdjaaDoor.Am
inductive PT where
  | e
  | n (k : Nat) (c : Fun) (l r : PT)

def PT.get : PT → Nat → Option Fun
  | .e, _ => none
  | .n k c l r, i => cond (Nat.beq i k) (some c) (cond (Nat.blt i k) (l.get i) (r.get i))

def PT.All (Q : Nat → Fun → Prop) : PT → Prop
  | .e => True
  | .n k c l r => Q k c ∧ l.All Q ∧ r.All Q

theorem PT.all_get {Q : Nat → Fun → Prop} : ∀ {t : PT}, t.All Q → ∀ {i : Nat} {c : Fun}, t.get i = some c → Q i c
  | .e, _, i, c, h => by simp [PT.get] at h
  | .n k d l r, ⟨h1, h2, h3⟩, i, c, h => by
    simp only [PT.get] at h
    cases hb : Nat.beq i k with
    | true =>
      rw [hb] at h
      have := Nat.eq_of_beq_eq_true hb
      subst this
      cases h; exact h1
    | false =>
      rw [hb] at h
      cases hl : Nat.blt i k with
      | true => rw [hl] at h; exact PT.all_get h2 h
      | false => rw [hl] at h; exact PT.all_get h3 h
end Go.Proofs.YtfaodjpibdhdjaaDoor.Am
