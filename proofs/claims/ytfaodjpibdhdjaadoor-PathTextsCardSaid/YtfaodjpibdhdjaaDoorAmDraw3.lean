/-
  Regions that draw their order: a step of any order.
-/
import Derived.Test.YtfaodjpibdhdjaaDoorAmDraw2
set_option linter.all false
set_option linter.unusedVariables false
set_option linter.unusedSimpArgs false
set_option linter.unusedSectionVars false
set_option linter.constructorNameAsVariable false
namespace Go.Proofs.YtfaodjpibdhdjaaDoor.Am
section
variable {self : Self} {cl : List Op} {E : Nat → Tr} {S : Nat → St} {pm : List Nat} {win : Nat → Nat × Nat} {L : Nat → Prop} {eL : Tr} {sL : St}

structure Canon (sf : Self) (cl : List Op) (E : Nat → Tr) (S : Nat → St) (pm : List Nat) (win : Nat → Nat × Nat) : Prop where
  step : ∀ i c, cl[i]? = some c → evD1 sf c (E i) (S i) = some (E (i + 1), S (i + 1))
  small : ∀ (i : Nat) (c : Op) (d : Nat), cl[i]? = some c → c.dst = some d → d + 1 < 1024
  pair : ∀ i j o p, i < j → cl[i]? = some o → cl[j]? = some p → oneWriter o p = true ∧ apartD pm win i j o p = true
  wok : ∀ i c, cl[i]? = some c → c.op.cls = 1 → winOk sf E S i (win i).1 (win i).2 c
  wsane : ∀ i, i < cl.length → (win i).1 ≤ i ∧ i ≤ (win i).2 ∧ (win i).2 ≤ cl.length

theorem put_get {e : Tr} {d : Option Nat} {v : AV} (h : ∀ x, d = some x → x + 1 < 1024) (t : Nat) : (put e d v).get t = if d = some t then v else e.get t := by
  cases d with
  | none => simp [put]
  | some x =>
    simp only [put]
    rw [get_set 10 e x v (by have := h x rfl; omega)]
    by_cases hx : t = x
    · subst hx; simp
    · rw [if_neg hx, if_neg (by intro hh; cases hh; exact hx rfl)]

/-- What one operation does. -/
theorem evD1_cases {c : Op} {e e1 : Tr} {s s1 : St} (h : evD1 self c e s = some (e1, s1)) :
    (wants e c.guard = true ∧ (c.op.cls = 2 ∨ quiet e s c.op = true) ∧ ∃ v, evOp self e s c.op = some (v, s1) ∧ e1 = put e c.dst v) ∨ (wants e c.guard = false ∧ e1 = put e c.dst undef ∧ s1 = s) := by
  unfold evD1 at h
  split at h
  · rename_i hw
    split at h <;> try (cases h; done)
    rename_i hq
    split at h <;> try (cases h; done)
    rename_i v s2 hv
    cases h
    refine .inl ⟨hw, ?_, v, hv, rfl⟩
    rw [Bool.or_eq_true] at hq
    exact hq.imp Nat.eq_of_beq_eq_true id
  · rename_i hw
    cases h
    exact .inr ⟨by simpa using hw, rfl, rfl⟩

theorem Canon.next (h : Canon self cl E S pm win) {i : Nat} {c : Op} (hc : cl[i]? = some c) : ∃ v, E (i + 1) = put (E i) c.dst v ∧ (c.op.cls ≠ 2 → S (i + 1) = S i) := by
  rcases evD1_cases (h.step i c hc) with ⟨_, hq, v, hv, he⟩ | ⟨_, he, hs⟩
  · refine ⟨v, he, fun hn => ?_⟩
    rcases hq with hq | hq
    · exact absurd hq hn
    · exact (evOp_quiet hn hq hv).1
  · exact ⟨_, he, fun _ => hs⟩

theorem Canon.get (h : Canon self cl E S pm win) {i t : Nat} {c : Op} (hc : cl[i]? = some c) (ht : c.dst ≠ some t) : (E (i + 1)).get t = (E i).get t := by
  obtain ⟨v, he, _⟩ := h.next hc
  rw [he, put_get (h.small i c · hc), if_neg ht]

theorem Canon.unique (h : Canon self cl E S pm win) {i j t : Nat} {c d : Op} (hc : cl[i]? = some c) (hd : cl[j]? = some d) (h1 : c.dst = some t) (h2 : d.dst = some t) : i = j := by
  rcases Nat.lt_trichotomy i j with hlt | rfl | hlt
  · have := (h.pair i j c d hlt hc hd).1
    simp [oneWriter, h1, h2] at this
  · rfl
  · have := (h.pair j i d c hlt hd hc).1
    simp [oneWriter, h1, h2] at this

theorem Canon.same (h : Canon self cl E S pm win) {t a : Nat} : ∀ {b : Nat}, a ≤ b → b ≤ cl.length → (∀ j c, a ≤ j → j < b → cl[j]? = some c → c.dst ≠ some t) → (E b).get t = (E a).get t
  | 0, hab, _, _ => by have : a = 0 := by omega
                       subst this; rfl
  | b + 1, hab, hb, hn => by
    by_cases he : a = b + 1
    · subst he; rfl
    · have hlt : b < cl.length := by omega
      rw [h.get (List.getElem?_eq_getElem hlt) (hn b _ (by omega) (by omega) (List.getElem?_eq_getElem hlt))]
      exact h.same (by omega) (by omega) fun j c h1 h2 => hn j c h1 (by omega)

theorem Canon.state (h : Canon self cl E S pm win) {a : Nat} : ∀ {b : Nat}, a ≤ b → b ≤ cl.length → (∀ j c, a ≤ j → j < b → cl[j]? = some c → c.op.cls ≠ 2) → S b = S a
  | 0, hab, _, _ => by have : a = 0 := by omega
                       subst this; rfl
  | b + 1, hab, hb, hn => by
    by_cases he : a = b + 1
    · subst he; rfl
    · have hlt : b < cl.length := by omega
      obtain ⟨v, _, hs⟩ := h.next (List.getElem?_eq_getElem hlt)
      rw [hs (hn b _ (by omega) (by omega) (List.getElem?_eq_getElem hlt))]
      exact h.state (by omega) (by omega) fun j c h1 h2 => hn j c h1 (by omega)

theorem Canon.written (h : Canon self cl E S pm win) {j k t : Nat} {c : Op} (hc : cl[j]? = some c) (ht : c.dst = some t) (hj : j < k) (hk : k ≤ cl.length) : (E k).get t = (E cl.length).get t := by
  refine (h.same (b := cl.length) hk (Nat.le_refl _) fun m d h1 _ hd hdt => ?_).symm
  have := h.unique hc hd ht hdt
  omega

/-- Where an order of the operations stands: those of L are done. -/
structure Mid (cl : List Op) (E : Nat → Tr) (S : Nat → St) (L : Nat → Prop) (eL : Tr) (sL : St) : Prop where
  done : ∀ t j c, L j → cl[j]? = some c → c.dst = some t → eL.get t = (E cl.length).get t
  rest : ∀ t, (∀ j c, L j → cl[j]? = some c → c.dst ≠ some t) → eL.get t = (E 0).get t
  state : ∀ k, k ≤ cl.length → (∀ h c, cl[h]? = some c → c.op.cls = 2 → (h < k ↔ L h)) → sL = S k

theorem ordered_lt {i j : Nat} (h : i < j) : ordered pm i j = (pm.getD j 0).testBit i := by
  unfold ordered
  rw [if_pos (by rw [Nat.blt_eq]; exact h)]

theorem Mid.reads (h : Canon self cl E S pm win) (m : Mid cl E S L eL sL) {i : Nat} {c : Op} (hc : cl[i]? = some c) (hnot : ¬ L i) (hpre : ∀ j, (pm.getD i 0).testBit j = true → L j) (hpost : ∀ j, L j → (pm.getD j 0).testBit i = true → False) :
    ∀ t ∈ c.reads, eL.get t = (E i).get t := by
  intro t ht
  have hilt : i < cl.length := (List.getElem?_eq_some_iff.1 hc).1
  by_cases hw : ∃ (j : Nat) (d : Op), cl[j]? = some d ∧ d.dst = some t
  · obtain ⟨j, d, hd, hdt⟩ := hw
    have huniq : ∀ (j' : Nat) (d' : Op), cl[j']? = some d' → d'.dst = some t → j' = j := fun j' d' hd' hdt' => h.unique hd' hd hdt' hdt
    rcases Nat.lt_trichotomy j i with hlt | rfl | hlt
    · have hap := (h.pair j i d c hlt hd hc).2
      have hLj : L j := by
        unfold apartD at hap
        rw [ordered_lt hlt, Bool.or_eq_true] at hap
        rcases hap with hap | hap
        · exact hpre j hap
        · simp only [Bool.and_eq_true, hdt] at hap
          have := hap.2.2.1
          rw [List.contains_iff_mem.2 ht] at this
          simp at this
      rw [m.done t j d hLj hd hdt, h.written hd hdt hlt (by omega)]
    · rw [m.rest t fun j' d' hL' hd' hdt' => by have := huniq j' d' hd' hdt'; subst this; exact hnot hL']
      exact (h.same (Nat.zero_le _) (by omega) fun j' d' _ hlt hd' hdt' => by have := huniq j' d' hd' hdt'; omega).symm
    · have hap := (h.pair i j c d hlt hc hd).2
      have hLj : ¬ L j := fun hLj => by
        unfold apartD at hap
        rw [ordered_lt hlt, Bool.or_eq_true] at hap
        rcases hap with hap | hap
        · exact hpost j hLj hap
        · simp only [Bool.and_eq_true, hdt] at hap
          have := hap.2.2.2
          rw [List.contains_iff_mem.2 ht] at this
          simp at this
      rw [m.rest t fun j' d' hL' hd' hdt' => by have := huniq j' d' hd' hdt'; subst this; exact hLj hL']
      exact (h.same (Nat.zero_le _) (by omega) fun j' d' _ hlt' hd' hdt' => by have := huniq j' d' hd' hdt'; omega).symm
  · have hno : ∀ (j : Nat) (d : Op), cl[j]? = some d → d.dst ≠ some t := fun j d hd hdt => hw ⟨j, d, hd, hdt⟩
    rw [m.rest t fun j d _ hd => hno j d hd]
    exact (h.same (Nat.zero_le _) (by omega) fun j d _ _ hd => hno j d hd).symm

/-- Operations that change the state keep their order. -/
theorem two_ordered (h : Canon self cl E S pm win) {i j : Nat} {c d : Op} (hlt : i < j) (hc : cl[i]? = some c) (hd : cl[j]? = some d) (hc2 : c.op.cls = 2) (hd2 : d.op.cls = 2) : (pm.getD j 0).testBit i = true := by
  have hap := (h.pair i j c d hlt hc hd).2
  unfold apartD at hap
  rw [ordered_lt hlt, Bool.or_eq_true] at hap
  rcases hap with hap | hap
  · exact hap
  · simp [hc2, hd2] at hap

theorem Mid.at2 (h : Canon self cl E S pm win) (m : Mid cl E S L eL sL) {i : Nat} {c : Op} (hc : cl[i]? = some c) (hs : c.op.cls = 2) (hnot : ¬ L i) (hpre : ∀ j, (pm.getD i 0).testBit j = true → L j) (hpost : ∀ j, L j → (pm.getD j 0).testBit i = true → False) :
    sL = S i := by
  have hilt : i < cl.length := (List.getElem?_eq_some_iff.1 hc).1
  refine m.state i (by omega) fun j d hd hj => ?_
  rcases Nat.lt_trichotomy j i with hlt | rfl | hlt
  · exact ⟨fun _ => hpre j (two_ordered h hlt hd hc hj hs), fun _ => hlt⟩
  · exact ⟨fun hh => absurd hh (Nat.lt_irrefl _), fun hh => absurd hh hnot⟩
  · exact ⟨fun hh => by omega, fun hL => (hpost j hL (two_ordered h hlt hc hd hs hj)).elim⟩

/-- Where an operation that reads the state may stand. -/
theorem Mid.at1 (h : Canon self cl E S pm win) (m : Mid cl E S L eL sL) (hclo : ∀ i j, L j → (pm.getD j 0).testBit i = true → L i) {i : Nat} {c : Op} (hc : cl[i]? = some c) (hs : c.op.cls = 1)
    (hpre : ∀ j, (pm.getD i 0).testBit j = true → L j) (hpost : ∀ j, L j → (pm.getD j 0).testBit i = true → False) :
    ∃ k, (win i).1 ≤ k ∧ k ≤ (win i).2 ∧ sL = S k := by
  have hilt : i < cl.length := (List.getElem?_eq_some_iff.1 hc).1
  obtain ⟨w1, w2, w3⟩ := h.wsane i hilt
  -- the first place with nothing done from it on
  have hex : ∀ n, (win i).1 ≤ n → n ≤ cl.length → (∀ j d, n ≤ j → cl[j]? = some d → d.op.cls = 2 → ¬ L j) → ∃ k, (win i).1 ≤ k ∧ k ≤ n ∧ (∀ j d, k ≤ j → cl[j]? = some d → d.op.cls = 2 → ¬ L j) ∧ (k = (win i).1 ∨ ∃ d, 1 ≤ k ∧ cl[k - 1]? = some d ∧ d.op.cls = 2 ∧ L (k - 1)) := by
    intro n
    induction n with
    | zero => intro h1 _ h3; exact ⟨0, h1, Nat.le_refl _, h3, .inl (by omega)⟩
    | succ n ih =>
      intro h1 h2 h3
      by_cases he : n + 1 = (win i).1
      · exact ⟨n + 1, h1, Nat.le_refl _, h3, .inl he⟩
      · by_cases hn : ∃ d, cl[n]? = some d ∧ d.op.cls = 2 ∧ L n
        · obtain ⟨d, hd, hd2, hL⟩ := hn
          exact ⟨n + 1, h1, Nat.le_refl _, h3, .inr ⟨d, by omega, hd, hd2, hL⟩⟩
        · obtain ⟨k, k1, k2, k3, k4⟩ := ih (by omega) (by omega) (fun j d hj hd hd2 hL => by
            by_cases hjn : j = n
            · subst hjn; exact hn ⟨d, hd, hd2, hL⟩
            · exact h3 j d (by omega) hd hd2 hL)
          exact ⟨k, k1, by omega, k3, k4⟩
  obtain ⟨k, k1, k2, k3, k4⟩ := hex (win i).2 (by omega) w3 (fun j d hj hd hd2 hL => by
    have hne : i ≠ j := by rintro rfl; rw [hc] at hd; cases hd; omega
    have hlt : i < j := by omega
    have hap := (h.pair i j c d hlt hc hd).2
    unfold apartD at hap
    rw [ordered_lt hlt, Bool.or_eq_true] at hap
    rcases hap with hap | hap
    · exact hpost j hL hap
    · simp only [Bool.and_eq_true, Bool.or_eq_true] at hap
      have := hap.2.1
      rcases this with this | this
      · simp [hd2, hs] at this
      · have h2 := this.2
        rw [Nat.blt_eq] at h2
        omega)
  refine ⟨k, k1, k2, m.state k (by omega) fun j d hd hd2 => ⟨fun hjk => ?_, fun hL => ?_⟩⟩
  · -- done
    have before : j < (win i).1 → L j := fun hj => by
      have hlt : j < i := by omega
      have hap := (h.pair j i d c hlt hd hc).2
      unfold apartD at hap
      rw [ordered_lt hlt, Bool.or_eq_true] at hap
      rcases hap with hap | hap
      · exact hpre j hap
      · simp only [Bool.and_eq_true, Bool.or_eq_true] at hap
        have := hap.1
        rcases this with this | this
        · simp [hd2, hs] at this
        · have h2 := this.2
          have := Nat.le_of_ble_eq_true h2
          omega
    rcases k4 with k4 | ⟨d', k0, hd', hd2', hL'⟩
    · exact before (by omega)
    · by_cases hj : j = k - 1
      · subst hj; exact hL'
      · exact hclo j (k - 1) hL' (two_ordered h (by omega) hd hd' hd2 hd2')
  · -- not later
    by_cases hjk : j < k
    · exact hjk
    · exact absurd hL (k3 j d (by omega) hd hd2)

theorem Mid.put (h : Canon self cl E S pm win) (m : Mid cl E S L eL sL) {i : Nat} {c : Op} (hc : cl[i]? = some c) (hnot : ¬ L i) {v : AV} (hv : E (i + 1) = put (E i) c.dst v) {s2 : St}
    (h0 : c.op.cls ≠ 2 → s2 = sL) (h2 : c.op.cls = 2 → s2 = S (i + 1) ∧ ∀ j d, cl[j]? = some d → d.op.cls = 2 → j ≠ i → (j < i ↔ L j)) : Mid cl E S (fun j => L j ∨ j = i) (put eL c.dst v) s2 := by
  have hilt : i < cl.length := (List.getElem?_eq_some_iff.1 hc).1
  refine ⟨fun t j d hL hd hdt => ?_, fun t hn => ?_, fun k hk hh => ?_⟩
  · rw [put_get (h.small i c · hc)]
    by_cases hct : c.dst = some t
    · rw [if_pos hct]
      have := h.written hc hct (Nat.lt_succ_self i) (by omega)
      rw [← this, hv, put_get (h.small i c · hc), if_pos hct]
    · rw [if_neg hct]
      rcases hL with hL | rfl
      · exact m.done t j d hL hd hdt
      · rw [hc] at hd; cases hd; exact absurd hdt hct
  · have hct : c.dst ≠ some t := hn i c (.inr rfl) hc
    rw [put_get (h.small i c · hc), if_neg hct]
    exact m.rest t fun j d hL => hn j d (.inl hL)
  · by_cases hcls : c.op.cls = 2
    · obtain ⟨hs2, hord⟩ := h2 hcls
      rw [hs2]
      have hik : i < k := (hh i c hc hcls).2 (.inr rfl)
      refine (h.state (a := i + 1) (by omega) hk fun j d h1 h2' hd hj => ?_).symm
      have hne : j ≠ i := by omega
      have hLj : L j := by
        rcases (hh j d hd hj).1 h2' with h | h
        · exact h
        · exact absurd h hne
      have := (hord j d hd hj hne).2 hLj
      omega
    · rw [h0 hcls]
      refine m.state k hk fun j d hd hj => ?_
      rw [hh j d hd hj]
      refine ⟨fun hor => ?_, .inl⟩
      rcases hor with hL | rfl
      · exact hL
      · rw [hc] at hd; cases hd; exact absurd hj hcls
end
end Go.Proofs.YtfaodjpibdhdjaaDoor.Am
