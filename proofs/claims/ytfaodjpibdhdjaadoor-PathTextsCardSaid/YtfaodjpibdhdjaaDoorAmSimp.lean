/-
  Laws for reckoning with the limit.
-/
import Derived.Test.YtfaodjpibdhdjaaDoorAmLim
import Derived.Test.YtfaodjpibdhdjaaDoorAmComp
set_option linter.all false
set_option linter.unusedVariables false
set_option linter.unusedSimpArgs false
set_option linter.unusedSectionVars false
set_option linter.constructorNameAsVariable false
namespace Go.Proofs.YtfaodjpibdhdjaaDoor.Am

theorem get_set10 (e : Tr) (d : Nat) (v : AV) (t : Nat) (h : d < 1000) : (e.set 10 d v).get t = if t = d then v else e.get t := get_set 10 e d v (by omega) t

theorem put_some (e : Tr) (d : Nat) (v : AV) : put e (some d) v = e.set 10 d v := rfl
theorem put_none (e : Tr) (v : AV) : put e none v = e := rfl

theorem new_box_self (s : St) (B : Box) : (s.new B).box? s.nb = some B := by rw [new_box?, if_pos rfl]
theorem new_nb (s : St) (B : Box) : (s.new B).nb = s.nb + 1 := rfl
theorem new_set (s : St) (B B' : Box) : (s.new B).setBox s.nb B' = s.new B' := by
  simp [St.new, St.setBox]
theorem new_lo (s : St) (B : Box) (n : Nat) : ({ s with lo := n } : St).new B = { s.new B with lo := n } := rfl

theorem pub_i (s : St) (k : IntKind) (n : Int) : pub s (.i k n) = some (.i k n, s) := rfl
theorem pub_b (s : St) (b : Bool) : pub s (.b b) = some (.b b, s) := rfl
theorem pub_s (s : St) (l : List Nat) : pub s (.s l) = some (.s l, s) := rfl

/-! ### Numbers and texts -/
section bins
variable (k : IntKind) (a b : Int) (x y : List Nat)
theorem bi_add : Am.binOp .add (.i k a) (.i k b) = some (.i k (k.wrap (a + b))) := by simp [Am.binOp, intOp]
theorem bi_sub : Am.binOp .sub (.i k a) (.i k b) = some (.i k (k.wrap (a - b))) := by simp [Am.binOp, intOp]
theorem bi_mul : Am.binOp .mul (.i k a) (.i k b) = some (.i k (k.wrap (a * b))) := by simp [Am.binOp, intOp]
theorem bi_quo : Am.binOp .quo (.i k a) (.i k b) = if b = 0 then none else some (.i k (k.wrap (a.tdiv b))) := by simp [Am.binOp, intOp]
theorem bi_rem : Am.binOp .rem (.i k a) (.i k b) = if b = 0 then none else some (.i k (a.tmod b)) := by simp [Am.binOp, intOp]
theorem bi_eql : Am.binOp .eql (.i k a) (.i k b) = some (.b (decide (a = b))) := by simp [Am.binOp, intOp]; rfl
theorem bi_neq : Am.binOp .neq (.i k a) (.i k b) = some (.b (decide (a ≠ b))) := by
  simp only [Am.binOp, intOp, if_true]
  by_cases h : a = b <;> simp [h]
theorem bi_lss : Am.binOp .lss (.i k a) (.i k b) = some (.b (decide (a < b))) := by simp [Am.binOp, intOp]
theorem bi_leq : Am.binOp .leq (.i k a) (.i k b) = some (.b (decide (a ≤ b))) := by simp [Am.binOp, intOp]
theorem bi_gtr : Am.binOp .gtr (.i k a) (.i k b) = some (.b (decide (b < a))) := by simp [Am.binOp, intOp]
theorem bi_geq : Am.binOp .geq (.i k a) (.i k b) = some (.b (decide (b ≤ a))) := by simp [Am.binOp, intOp]
theorem beqN_dec : ∀ (a b : List Nat), beqN a b = decide (a = b)
  | [], [] => rfl
  | [], _ :: _ => by simp [beqN]
  | _ :: _, [] => by simp [beqN]
  | a :: l, b :: m => by
    simp only [beqN, beqN_dec l m, List.cons.injEq]
    rw [Bool.eq_iff_iff]
    simp
theorem bs_add : Am.binOp .add (.s x) (.s y) = if x.length + y.length < 2 ^ 62 then some (.s (x ++ y)) else none := by simp [Am.binOp, strOp]
theorem bs_eql : Am.binOp .eql (.s x) (.s y) = some (.b (decide (x = y))) := by simp [Am.binOp, strOp, beqN_dec]
theorem bs_neq : Am.binOp .neq (.s x) (.s y) = some (.b (decide (x ≠ y))) := by
  simp only [Am.binOp, strOp, beqN_dec]
  by_cases h : x = y <;> simp [h]
theorem bs_lss : Am.binOp .lss (.s x) (.s y) = some (.b (ltN x y)) := by simp [Am.binOp, strOp]
theorem key_ii (k : IntKind) (a b : Int) : keyEq 0 (.i k a) (.i k b) = some (decide (a = b)) := by simp [keyEq]; rfl
theorem key_ss (x y : List Nat) : keyEq 1 (.s x) (.s y) = some (decide (x = y)) := by simp [keyEq, beqN_dec]
end bins
theorem esc_i (s : St) (id : Nat) (k : IntKind) (n : Int) : esc s id (.i k n) = s := rfl
theorem esc_s (s : St) (id : Nat) (l : List Nat) : esc s id (.s l) = s := rfl
theorem esc_b (s : St) (id : Nat) (b : Bool) : esc s id (.b b) = s := rfl
end Go.Proofs.YtfaodjpibdhdjaaDoor.Am
