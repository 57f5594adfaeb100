/-
  Regions that draw their order: any order comes to the same.
-/
import Derived.Test.YtfaodjpibdhdjaaDoorAmDraw
set_option linter.all false
set_option linter.unusedVariables false
set_option linter.unusedSimpArgs false
set_option linter.unusedSectionVars false
set_option linter.constructorNameAsVariable false
namespace Go.Proofs.YtfaodjpibdhdjaaDoor.Am
section
variable {self : Self}

theorem traceD_split : ∀ {cl : List Op} {e : Tr} {s : St} {tr : List (Tr × St)}, traceD self cl e s = some tr →
    ∃ (E : Nat → Tr) (S : Nat → St), E 0 = e ∧ S 0 = s ∧ (∀ i c, cl[i]? = some c → evD1 self c (E i) (S i) = some (E (i + 1), S (i + 1))) ∧ (∀ i, i ≤ cl.length → tr[i]? = some (E i, S i)) ∧ lastD tr = some (E cl.length, S cl.length)
  | [], e, s, tr, h => by
    simp only [traceD] at h; cases h
    refine ⟨fun _ => e, fun _ => s, rfl, rfl, fun i c hc => by simp at hc, fun i hi => ?_, rfl⟩
    have h0 : i = 0 := by simpa using hi
    subst h0
    rfl
  | c :: l, e, s, tr, h => by
    simp only [traceD] at h
    split at h <;> try (cases h; done)
    rename_i e1 s1 h1
    split at h <;> try (cases h; done)
    rename_i r h2
    cases h
    obtain ⟨E, S, k1, k2, k3, k4, k5⟩ := traceD_split h2
    refine ⟨fun i => match i with | 0 => e | i + 1 => E i, fun i => match i with | 0 => s | i + 1 => S i, rfl, rfl, fun i d hd => ?_, fun i hi => ?_, ?_⟩
    · cases i with
      | zero =>
        simp only [List.getElem?_cons_zero, Option.some.injEq] at hd
        subst hd
        simp only [k1, k2]; exact h1
      | succ i =>
        simp only [List.getElem?_cons_succ] at hd
        exact k3 i d hd
    · cases i with
      | zero => rfl
      | succ i => simp only [List.getElem?_cons_succ]; exact k4 i (by simpa using hi)
    · cases r with
      | nil => have := k4 0 (Nat.zero_le _); simp at this
      | cons x r => simp only [lastD, List.length_cons]; exact k5

/-! ### Values cell by cell -/

/-! ### What the look at the places says -/
def winOk (self : Self) (E : Nat → Tr) (S : Nat → St) (i lo hi : Nat) (c : Op) : Prop :=
  wants (E i) c.guard = true → ∀ v s', evOp self (E i) (S i) c.op = some (v, s') → ∀ k, lo ≤ k → k ≤ hi → quiet (E i) (S k) c.op = true ∧ ∃ s'', evOp self (E i) (S k) c.op = some (v, s'')

theorem chkD_spec {cl : List Op} {E : Nat → Tr} {S : Nat → St} {tr : List (Tr × St)} (ht : ∀ i, i ≤ cl.length → tr[i]? = some (E i, S i)) : ∀ {wins : List (Nat × Nat × Nat)}, (wins.all fun w => Nat.ble w.2.1 w.1 && (Nat.ble w.1 w.2.2 && Nat.ble w.2.2 cl.length)) = true →
    chkD self cl tr wins = true → ∀ w ∈ wins, ∀ c, cl[w.1]? = some c → winOk self E S w.1 w.2.1 w.2.2 c
  | [], _, _, w, hw, _, _ => by cases hw
  | (i, lo, hi) :: l, hs, h, w, hw, c, hc => by
    simp only [List.all_cons, Bool.and_eq_true] at hs
    simp only [chkD, Bool.and_eq_true] at h
    rcases List.mem_cons.1 hw with rfl | hw
    · obtain ⟨⟨s1, s2, s3⟩, _⟩ := hs
      have s3' := Nat.le_of_ble_eq_true s3
      have hi' : i < cl.length := (List.getElem?_eq_some_iff.1 hc).1
      obtain ⟨h, _⟩ := h
      simp only at hc
      rw [hc, ht i (by omega)] at h
      simp only [Bool.or_eq_true, Bool.not_eq_true'] at h
      intro hwt v s' hv k hk1 hk2
      simp only at hwt hv hk1 hk2 ⊢
      rcases h with h | h
      · rw [hwt] at h; cases h
      · rw [hv] at h
        simp only [List.all_eq_true] at h
        have := h k (by rw [List.mem_range'_1]; omega)
        have s3'' : hi ≤ cl.length := s3'
        rw [ht k (by omega)] at this
        simp only [sameAt, Bool.and_eq_true] at this
        refine ⟨this.1, ?_⟩
        have h2 := this.2
        split at h2 <;> try (cases h2; done)
        rename_i v' s'' hv'
        rw [beqA_eq _ _ h2]
        exact ⟨s'', hv'⟩
    · exact chkD_spec ht hs.2 h.2 w hw c hc

theorem winF_mem : ∀ {wins : List (Nat × Nat × Nat)} {i : Nat}, winF wins i = (i, i) ∨ (i, winF wins i) ∈ wins
  | [], i => .inl rfl
  | (j, lo, hi) :: l, i => by
    simp only [winF]
    split
    · rename_i h; have := Nat.eq_of_beq_eq_true h; subst this; exact .inr (by simp)
    · exact (winF_mem (wins := l) (i := i)).imp id (fun h => by simp [h])

/-! ### What the check says -/
theorem drawRow_spec {pm : List Nat} {win : Nat → Nat × Nat} {i : Nat} {o : Op} : ∀ {l : List Op} {j : Nat}, drawRow pm win i o j l = true → ∀ k p, l[k]? = some p → oneWriter o p = true ∧ apartD pm win i (j + k) o p = true
  | [], _, _, k, p, hk => by simp at hk
  | q :: l, j, h, k, p, hk => by
    simp only [drawRow, Bool.and_eq_true] at h
    cases k with
    | zero => simp only [List.getElem?_cons_zero, Option.some.injEq] at hk; subst hk; exact h.1
    | succ k =>
      simp only [List.getElem?_cons_succ] at hk
      have := drawRow_spec h.2 k p hk
      rw [show j + (k + 1) = j + 1 + k by omega]; exact this
theorem drawAll_spec {pm : List Nat} {win : Nat → Nat × Nat} : ∀ {l : List Op} {b : Nat}, drawAll pm win b l = true → ∀ i j o p, i < j → l[i]? = some o → l[j]? = some p → oneWriter o p = true ∧ apartD pm win (b + i) (b + j) o p = true
  | [], _, _, i, j, o, p, _, hi, _ => by simp at hi
  | q :: l, b, h, i, j, o, p, hij, hi, hj => by
    simp only [drawAll, Bool.and_eq_true] at h
    cases j with
    | zero => omega
    | succ j =>
      simp only [List.getElem?_cons_succ] at hj
      cases i with
      | zero =>
        simp only [List.getElem?_cons_zero, Option.some.injEq] at hi
        subst hi
        have := drawRow_spec h.1 j p hj
        rw [show b + 0 = b by omega, show b + (j + 1) = b + 1 + j by omega]; exact this
      | succ i =>
        simp only [List.getElem?_cons_succ] at hi
        have := drawAll_spec h.2 i j o p (by omega) hi hj
        rw [show b + (i + 1) = b + 1 + i by omega, show b + (j + 1) = b + 1 + j by omega]; exact this

theorem edgesBack_spec : ∀ {l : List Oper} {b : Nat}, edgesBack b l = true → ∀ i o, l[i]? = some o → ∀ ed ∈ o.after.toList, Region.binds .any ed = true → ed.on < b + i
  | [], _, _, i, o, hi => by simp at hi
  | q :: l, b, h, i, o, hi => by
    simp only [edgesBack, Bool.and_eq_true, List.all_eq_true] at h
    cases i with
    | zero =>
      simp only [List.getElem?_cons_zero, Option.some.injEq] at hi
      subst hi
      intro ed hed hb
      have := h.1 ed hed
      rw [hb] at this
      simp only [Bool.not_true, Bool.false_or, Nat.blt_eq] at this
      exact this
    | succ i =>
      simp only [List.getElem?_cons_succ] at hi
      intro ed hed hb
      have := edgesBack_spec h.2 i o hi ed hed hb
      omega

theorem predsGo_spec : ∀ (l : List Oper) (acc : List Nat), (predsGo l acc).length = acc.length + l.length ∧ (∀ i, i < acc.length → (predsGo l acc)[i]? = acc[i]?) ∧
    ∀ i o, l[i]? = some o → (predsGo l acc)[acc.length + i]? = some (predsGo.predOf ((predsGo l acc).take (acc.length + i)) o.after.toList)
  | [], acc => by simp [predsGo]
  | q :: l, acc => by
    obtain ⟨h1, h2, h3⟩ := predsGo_spec l (acc ++ [predsGo.predOf acc q.after.toList])
    simp only [List.length_append, List.length_cons, List.length_nil, Nat.zero_add] at h1 h2 h3
    simp only [predsGo]
    have htake : (predsGo l (acc ++ [predsGo.predOf acc q.after.toList])).take acc.length = acc := by
      apply List.ext_getElem?
      intro i
      rw [List.getElem?_take]
      split
      · rename_i hi
        rw [h2 i (by omega), List.getElem?_append_left hi]
      · rename_i hi; rw [List.getElem?_eq_none (by omega)]
    refine ⟨by rw [h1]; simp only [List.length_cons]; omega, fun i hi => by rw [h2 i (by omega), List.getElem?_append_left hi], fun i o hi => ?_⟩
    cases i with
    | zero =>
      simp only [List.getElem?_cons_zero, Option.some.injEq] at hi
      subst hi
      rw [Nat.add_zero, htake, h2 acc.length (by omega)]
      simp
    | succ i =>
      simp only [List.getElem?_cons_succ] at hi
      have := h3 i o hi
      rw [show acc.length + (i + 1) = acc.length + 1 + i by omega]; exact this

theorem predOf_bits {acc : List Nat} {j : Nat} : ∀ {l : List Edge}, (predsGo.predOf acc l).testBit j = true → ∃ ed ∈ l, Region.binds .any ed = true ∧ (ed.on = j ∨ (acc.getD ed.on 0).testBit j = true)
  | [], h => by simp [predsGo.predOf] at h
  | ed :: l, h => by
    simp only [predsGo.predOf] at h
    split at h
    · rename_i hb
      rw [Nat.testBit_or, Nat.testBit_or, Bool.or_eq_true, Bool.or_eq_true] at h
      rcases h with (h | h) | h
      · refine ⟨ed, by simp, hb, .inl ?_⟩
        rw [Nat.testBit_two_pow] at h
        simpa using h
      · exact ⟨ed, by simp, hb, .inr h⟩
      · obtain ⟨ed', h1, h2⟩ := predOf_bits h
        exact ⟨ed', by simp [h1], h2⟩
    · obtain ⟨ed', h1, h2⟩ := predOf_bits h
      exact ⟨ed', by simp [h1], h2⟩

/-- What surely comes before has been done. -/
theorem preds_done {ops : Array Oper} (hb : edgesBack 0 ops.toList = true) {L : Nat → Prop} (hL : ∀ j, L j → ∀ o, ops[j]? = some o → ∀ ed ∈ o.after.toList, Region.binds .any ed = true → L ed.on) :
    ∀ (i : Nat) (o : Oper), ops[i]? = some o → (∀ ed ∈ o.after.toList, Region.binds .any ed = true → L ed.on) → ∀ j, ((predsGo ops.toList []).getD i 0).testBit j = true → L j := by
  intro i
  induction i using Nat.strongRecOn with
  | _ i ih =>
    intro o ho hed j hj
    obtain ⟨h1, h2, h3⟩ := predsGo_spec ops.toList []
    simp only [List.length_nil, Nat.zero_add] at h1 h2 h3
    have ho' : ops.toList[i]? = some o := by simpa using ho
    have := h3 i o ho'
    rw [List.getD_eq_getElem?_getD, this, Option.getD_some] at hj
    obtain ⟨ed, hm, hbd, hor⟩ := predOf_bits hj
    have hLon := hed ed hm hbd
    rcases hor with rfl | hbit
    · exact hLon
    · have hlt : ed.on < i := by have := edgesBack_spec hb i o ho' ed hm hbd; omega
      have hsz : ed.on < ops.size := by
        have := (Array.getElem?_eq_some_iff.1 ho).1
        omega
      rw [List.getD_eq_getElem?_getD, List.getElem?_take, if_pos hlt, ← List.getD_eq_getElem?_getD] at hbit
      exact ih ed.on hlt ops[ed.on] (Array.getElem?_eq_getElem hsz) (fun ed' hm' hb' => hL ed.on hLon _ (Array.getElem?_eq_getElem hsz) ed' hm' hb') j hbit
end
end Go.Proofs.YtfaodjpibdhdjaaDoor.Am
