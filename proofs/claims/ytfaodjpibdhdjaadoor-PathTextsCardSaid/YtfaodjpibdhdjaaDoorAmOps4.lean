/-
  append.
-/
import Derived.Test.YtfaodjpibdhdjaaDoorAmOps3
set_option linter.all false
set_option linter.unusedVariables false
set_option linter.unusedSimpArgs false
set_option linter.unusedSectionVars false
set_option linter.constructorNameAsVariable false
namespace Go.Proofs.YtfaodjpibdhdjaaDoor.Am
variable {CR : Nat → Code → C → Prop} {P : Program} {g : G} {s s' : St} {w : World}

theorem nextcap_le (n o : Nat) (h : o < n) : Builtin.nextslicecap n o ≤ 2 * n := by
  unfold Builtin.nextslicecap
  split
  · omega
  · split
    · omega
    · have hg : ∀ r c : Nat, 256 ≤ n → c ≤ 2 * n → Builtin.growBy n r c ≤ 2 * n := by
        intro r
        induction r with
        | zero => intro c _ hc; exact hc
        | succ r ih =>
          intro c hn hc
          simp only [Builtin.growBy]
          split
          · exact hc
          · exact ih _ hn (by omega)
      exact hg 4 o (by omega) (by omega)

theorem bytes_get (l : List Nat) : (bytesOf l).data.toList = l.map UInt8.ofNat := by simp [bytesOf]
theorem bytes_size (l : List Nat) : (bytesOf l).size = l.length := by simp [bytesOf, ByteArray.size]

theorem ones_flat {es : Nat} : ∀ {xs : List AV} {vs : List Value}, VL g s w xs vs → allLen es xs = true → ∀ v ∈ flat vs, v.oneCell' = true
  | [], vs, h, _ => by simp only [VL] at h; subst h; simp [flat]
  | a :: l, vs, h, ha => by
    simp only [VL] at h
    obtain ⟨v, r, rfl, h1, h2⟩ := h
    simp only [allLen, Bool.and_eq_true] at ha
    intro u hu
    rw [flat_cons] at hu
    rcases List.mem_append.1 hu with hu | hu
    · exact ones_of_VL ha.1.2 (V_cells h1) u hu
    · exact ones_flat h2 ha.2 u hu

theorem rowB_ok (hI : Inv CR g s w) {id off n : Nat} {ys : List AV} (h : rowB s id off n = some ys) : ∃ vs, VL g s w ys vs ∧ vs.length = n ∧ ys.length = n ∧ cellsAt w (g.bx id) off vs := by
  unfold rowB at h
  split at h <;> try (cases h; done)
  rename_i l hb
  obtain ⟨vs, h2, h3⟩ := cells?_ok hI hb
  obtain ⟨c1, c2, _⟩ := VL_cut h2 h
  exact ⟨_, c1, by have := VL.length c1; omega, c2, by simpa using cellsAt_cut (off := off) (n := n) h3⟩

theorem flat_ones : ∀ {xs : List AV} {vs : List Value}, VL g s w xs vs → ones xs = true → flat vs = vs ∧ allLen 1 xs = true
  | [], vs, h, _ => by simp only [VL] at h; subst h; exact ⟨rfl, rfl⟩
  | a :: l, vs, h, ho => by
    simp only [VL] at h
    obtain ⟨v, r, rfl, h1, h2⟩ := h
    obtain ⟨o1, o2⟩ := ones_cons ho
    obtain ⟨e1, e2⟩ := flat_ones h2 o2
    have hc : v.cells = #[v] := by
      have := one_of_V o1 h1
      cases v <;> first | rfl | (exact absurd this (by simp [Value.oneCell']))
    refine ⟨by rw [flat_cons, e1, hc]; rfl, ?_⟩
    have hl : a.cells = [a] := by cases a <;> first | rfl | (simp [ones] at o1)
    simp only [allLen, hl, o1, e2, List.length_singleton]; rfl

theorem flat_append (a b : List Value) : flat (a ++ b) = flat a ++ flat b := by simp [flat]

theorem ones_app : ∀ {a b : List AV}, ones (a ++ b) = true → ones a = true ∧ ones b = true
  | [], _, h => ⟨rfl, h⟩
  | x :: a, b, h => by
    obtain ⟨h1, h2⟩ := ones_cons (l := a ++ b) h
    obtain ⟨h3, h4⟩ := ones_app h2
    refine ⟨?_, h4⟩
    cases x <;> first | exact h3 | (simp [ones] at h1)

theorem ones_take {l : List AV} (n : Nat) (h : ones l = true) : ones (l.take n) = true ∧ ones (l.drop n) = true := by
  rw [← List.take_append_drop n l] at h; exact ones_app h

theorem chunk_len (es : Nat) : ∀ (n : Nat) (l : List AV), n * es ≤ l.length → 1 ≤ es → (chunk es n l).length = n
  | 0, _, _, _ => rfl
  | n + 1, l, h, he => by
    have hm : (n + 1) * es = n * es + es := by rw [Nat.add_mul]; omega
    have := chunk_len es n (l.drop es) (by rw [List.length_drop]; omega) he
    simp only [chunk, List.length_append, this]
    by_cases h1 : es = 1
    · rw [if_pos h1]; simp; omega
    · rw [if_neg h1]; simp; omega

/-- The elements of a box's row. -/
theorem chunk_ok {es : Nat} (he : 1 ≤ es) : ∀ (n : Nat) {l : List AV} {us : List Value}, l.length = n * es → ones l = true → VL g s w l us →
    ∃ vs, VL g s w (chunk es n l) vs ∧ flat vs = us ∧ allLen es (chunk es n l) = true
  | 0, l, us, hl, _, hv => by
    have : l = [] := List.length_eq_zero_iff.1 (by omega)
    subst this
    simp only [VL] at hv; subst hv
    exact ⟨[], by simp [chunk, VL], rfl, rfl⟩
  | n + 1, l, us, hl, ho, hv => by
    have hm : (n + 1) * es = n * es + es := by rw [Nat.add_mul]; omega
    obtain ⟨o1, o2⟩ := ones_take es ho
    obtain ⟨vs, k1, k2, k3⟩ := chunk_ok he n (l := l.drop es) (us := us.drop es) (by rw [List.length_drop]; omega) o2 (VL_drop es hv)
    have ht := VL_take es hv
    have hlt : (l.take es).length = es := by rw [List.length_take]; omega
    by_cases h1 : es = 1
    · subst h1
      obtain ⟨f1, f2⟩ := flat_ones ht o1
      refine ⟨us.take 1 ++ vs, ?_, ?_, ?_⟩
      · simp only [chunk, if_true]; exact VL_app ht k1
      · rw [flat_append, f1, k2, List.take_append_drop]
      · simp only [chunk, if_true]
        cases hl1 : l.take 1 with
        | nil => simpa using k3
        | cons a r =>
          rw [hl1] at f2
          simp only [allLen, Bool.and_eq_true] at f2
          have hr : r = [] := by rw [hl1] at hlt; simpa using hlt
          subst hr
          simp only [List.cons_append, List.nil_append, allLen, Bool.and_eq_true]
          exact ⟨f2.1, k3⟩
    · refine ⟨.agg (us.take es).toArray :: vs, ?_, ?_, ?_⟩
      · simp only [chunk, if_neg h1, List.cons_append, List.nil_append, VL, V]
        exact ⟨_, _, rfl, ⟨_, ht, rfl⟩, k1⟩
      · rw [flat_cons, k2]; simp [Value.cells]
      · simp only [chunk, if_neg h1, List.cons_append, List.nil_append, allLen, AV.cells, Bool.and_eq_true]
        exact ⟨⟨by rw [hlt]; exact Nat.beq_refl _, o1⟩, k3⟩

theorem VL_flatC : ∀ {xs : List AV} {vs : List Value}, VL g s w xs vs → VL g s w (flatC xs) (flat vs)
  | [], vs, h => by simp only [VL] at h; subst h; simp [flatC, flat, VL]
  | a :: l, vs, h => by
    simp only [VL] at h
    obtain ⟨v, r, rfl, h1, h2⟩ := h
    rw [flat_cons]
    exact VL_app (V_cells h1) (VL_flatC h2)

theorem flatC_len {es : Nat} : ∀ {xs : List AV}, allLen es xs = true → (flatC xs).length = xs.length * es
  | [], _ => by simp [flatC]
  | a :: l, h => by
    simp only [allLen, Bool.and_eq_true] at h
    have h1 := Nat.eq_of_beq_eq_true h.1.1
    have := flatC_len h.2
    simp only [flatC, List.length_append, List.length_cons, this, h1, Nat.add_mul]; omega

/-- The cells that are appended. -/
theorem elems_ok {es : Nat} {y : AV} {ys : List AV} {yv : Value} (hI : Inv CR g s w) (hv : V g s w y yv) (h : elems s es y = some ys) :
    ∃ vs, VL g s w ys vs ∧ allLen es ys = true ∧ (Builtin.lenOf yv).run P w = .ok ys.length w ∧ (Builtin.firstCells es ys.length yv).run P w = .ok (flat vs).toArray w ∧ ∀ v ∈ flat vs, v.oneCell' = true := by
  cases y <;> simp only [elems] at h <;> try cases h
  case bl id e off n x =>
    split at h <;> try (cases h; done)
    rename_i he
    obtain ⟨rfl, hes⟩ := he
    split at h <;> try (cases h; done)
    rename_i cs hr
    split at h <;> try (cases h; done)
    rename_i ho
    cases h
    obtain ⟨us, r1, r2, r3, r4⟩ := rowB_ok hI hr
    obtain ⟨vs, f1, f2, f3⟩ := chunk_ok hes n r3 ho r1
    have hcl := chunk_len e n cs (by omega) hes
    simp only [V] at hv
    obtain ⟨o, cap, rfl, _, hz, _, hoff, _⟩ := hv
    refine ⟨vs, f1, f3, by rw [hcl]; rfl, ?_, ones_flat f1 f3⟩
    simp only [Builtin.firstCells, f2, hcl]
    by_cases h0 : n = 0
    · subst h0
      have : us = [] := List.length_eq_zero_iff.1 (by omega)
      subst this
      simp [loadCells, loadCellsFrom]
    · rw [hoff (by omega)]
      exact run_loadCells r2 r4
  case nsl =>
    simp only [V] at hv; subst hv
    exact ⟨[], by simp [VL], rfl, rfl, by simp [Builtin.firstCells, flat], by simp [flat]⟩
  case wz =>
    simp only [V] at hv; obtain ⟨a, rfl⟩ := hv
    exact ⟨[], by simp [VL], rfl, rfl, by simp [Builtin.firstCells, flat, loadCells, loadCellsFrom], by simp [flat]⟩
  case ws f e xs =>
    split at h
    · rename_i he
      cases h
      subst he
      rcases V_ws.1 hv with ⟨hv2, rfl⟩ | ⟨hv2, rfl⟩ | hv2
      · simp only [V] at hv2; subst hv2
        exact ⟨[], by simp [VL], rfl, rfl, by simp [Builtin.firstCells, flat], by simp [flat]⟩
      · simp only [V] at hv2; obtain ⟨a, rfl⟩ := hv2
        exact ⟨[], by simp [VL], rfl, rfl, by simp [Builtin.firstCells, flat, loadCells, loadCellsFrom], by simp [flat]⟩
      · simp only [V] at hv2
        obtain ⟨b, o, cap, vs, rfl, he, hal, _, hv3⟩ := hv2
        obtain ⟨k1, k2, _, _⟩ := hv3 capM_ok.1
        exact ⟨vs, k1, hal, rfl, by simp only [Builtin.firstCells]; exact run_loadCells (flat_length k1 hal) k2, ones_flat k1 hal⟩
    · cases h
  case s l =>
    split at h
    · rename_i he
      subst he
      cases h
      simp only [V] at hv
      obtain ⟨rfl, hlt⟩ := hv
      have hal : ∀ l : List Nat, allLen 1 (l.map fun n => AV.i .u8 (Int.ofNat n)) = true := by
        intro l; induction l with
        | nil => rfl
        | cons a l ih => simp only [List.map_cons, allLen, AV.cells, List.length_cons, List.length_nil, ih]; rfl
      have hVL : ∀ l : List Nat, VL g s w (l.map fun n => AV.i .u8 (Int.ofNat n)) (l.map fun n => Value.int .u8 (Int.ofNat n)) := by
        intro l; induction l with
        | nil => simp [VL]
        | cons a l ih => simp only [List.map_cons, VL]; exact ⟨_, _, rfl, by simp [V], ih⟩
      refine ⟨_, hVL l, hal l, by simp [Builtin.lenOf, bytes_size], ?_, ?_⟩
      · have hfl : ∀ l : List Nat, flat (l.map fun n => Value.int .u8 (Int.ofNat n)) = l.map fun n => Value.int .u8 (Int.ofNat n) := by
          intro l; induction l with
          | nil => rfl
          | cons a l ih => simp only [List.map_cons, flat_cons, ih]; rfl
        rw [hfl]
        simp only [Builtin.firstCells, List.length_map, Sem.run_pure]
        congr 1
        apply Array.toList_inj.1
        have hex : ((bytesOf l).extract 0 l.length) = bytesOf l := by
          have := bytes_size l
          rw [← this]; exact ByteArray.extract_zero_size
        rw [hex]
        simp only [Array.toList_map, bytes_get, List.map_map]
        apply List.map_congr_left
        intro n hn
        have := hlt n hn
        simp only [Function.comp_apply]
        rw [show (UInt8.ofNat n).toNat = n by rw [UInt8.toNat_ofNat']; omega]
        rfl
      · intro v hv
        simp only [flat, List.mem_flatMap, List.mem_map] at hv
        obtain ⟨u, ⟨n, _, rfl⟩, hv⟩ := hv
        simp [Value.cells] at hv; subst hv; rfl
    · cases h
  case sl e xs m =>
    split at h
    · rename_i he
      cases h
      obtain ⟨rfl, hok⟩ := he
      simp only [V] at hv
      obtain ⟨b, o, cap, vs, rfl, he, hal, hk, hv⟩ := hv
      obtain ⟨h1, h2, _, _⟩ := hv hok
      refine ⟨vs, h1, hal, by simp [Builtin.lenOf], ?_, ?_⟩
      · simp only [Builtin.firstCells]
        exact run_loadCells (flat_length h1 hal) h2
      · exact ones_flat h1 hal
    · cases h

theorem allLen_append {n : Nat} : ∀ {a b : List AV}, allLen n a = true → allLen n b = true → allLen n (a ++ b) = true
  | [], b, _, h => h
  | x :: a, b, h, k => by
    simp only [allLen, Bool.and_eq_true] at h
    simp only [List.cons_append, allLen, Bool.and_eq_true]
    exact ⟨h.1, allLen_append h.2 k⟩

/-- The type's part of append. -/
structure AppT (P : Program) (c : Array TypeId) (es e : Nat) : Prop where
  ex : ∃ (t : Nat) (u : Nat) (d : TypeDesc) (i : TypeInfo) (z : Value), c[0]? = some t ∧ c[1]? = some u ∧ P.underlying t = some (.slice e) ∧ P.underlying u = some d ∧ (∀ k, d ≠ .int k) ∧ P.info? e = some i ∧ i.size = es ∧
    i.bytes ≤ 256 ∧ 1 ≤ es ∧ (∀ w, (zeroValue e).run P w = .ok z w) ∧ z.cells.size = es

theorem arr2_0 (x y : Value) : (#[x, y] : Array Value)[0]? = some x := rfl
theorem arr2_1 (x y : Value) : (#[x, y] : Array Value)[1]? = some y := rfl

/-- What append comes to, for a source of n cells' worth. -/
theorem run_append {c : Array TypeId} {es e : Nat} (hT : AppT P c es e) {base : Option Addr} {sLen sCap n : Nat} {yv : Value} {ty : TypeId} {new : Array Value}
    (h1 : (Builtin.lenOf yv).run P w = .ok n w) (h2 : ∀ dr, (Builtin.firstCells es n yv).run P { w with drawn := dr } = .ok new { w with drawn := dr }) :
    (sLen + n ≤ sCap → (Builtin.append_ c ty #[.slice base sLen sCap, yv]).run P w =
      (match base with | some a => (storeCells (a.add (sLen * es)) new.toList).run P w | none => .ok () w).andThen fun _ w' => .ok (.slice base (sLen + n) sCap) w') ∧
    (sCap < sLen + n → (sLen + n) * es < 2 ^ 38 → ∀ old : Array Value, (∀ dr, (Builtin.firstCells es sLen (.slice base sLen sCap)).run P { w with drawn := dr } = .ok old { w with drawn := dr }) →
      ∃ (cap : Nat) (rest : Array Value), sLen + n ≤ cap ∧ rest.size = (cap - (sLen + n)) * es ∧
        (Builtin.append_ c ty #[.slice base sLen sCap, yv]).run P w = .ok (.slice (some ⟨w.heap.size, 0, none⟩) (sLen + n) cap) ({ w with drawn := w.drawn + 1 }.alloc (.cells (old ++ new ++ rest) e))) := by
  obtain ⟨t, u, d, i, z, hc0, hc1, ht, hu, hd, hi, hsz, hb, hes, hz, hzs⟩ := hT.ex
  have hsz' : sizeT P e = some es := by simp [sizeT, hi, hsz]
  have hm : (match (d : TypeDesc) with | .int _ => true | _ => false) = false := by cases d <;> first | rfl | (exact absurd rfl (hd _))
  have hw : ({ w with drawn := w.drawn } : World) = w := rfl
  constructor
  · intro hle
    simp only [Builtin.append_, hc0, hc1, arr2_0, arr2_1, Sem.run_bind, run_underlying ht, run_underlying hu, Result.andThen_ok, run_sizeOf hsz', Sem.run_pure, hm,
      Bool.false_eq_true, if_false, h1, Bool.not_false, if_true]
    rw [if_pos hle]
    have h2' := h2 w.drawn
    rw [hw] at h2'
    simp only [Sem.run_bind, h2', Result.andThen_ok]
    cases base with
    | none => simp
    | some a =>
      simp only
      cases hr : (storeCells (a.add (sLen * es)) new.toList).run P w <;> simp [hr]
  · intro hlt hsmall old hold
    have hneed : sLen + n < 2 ^ 38 := by
      have : (sLen + n) * 1 ≤ (sLen + n) * es := Nat.mul_le_mul_left _ hes
      omega
    have hnc := nextcap_le (sLen + n) sCap hlt
    have hbytes : Builtin.nextslicecap (sLen + n) sCap * i.bytes ≤ 2 ^ 48 := by
      have := Nat.mul_le_mul hnc hb
      omega
    simp only [Builtin.append_, hc0, hc1, arr2_0, arr2_1, Sem.run_bind, run_underlying ht, run_underlying hu, Result.andThen_ok, run_sizeOf hsz', Sem.run_pure, hm,
      Bool.false_eq_true, if_false, h1, Bool.not_false, if_true]
    rw [if_neg (by omega)]
    simp only [Sem.run_bind, run_typeInfo hi, Result.andThen_ok]
    rw [if_neg (by
      intro hh
      have : IntKind.i64.max = 9223372036854775807 := rfl
      rw [this] at hh; omega)]
    simp only [Sem.run_bind, Sem.run_pure, Result.andThen_ok, run_typeInfo hi]
    rw [if_neg (by omega)]
    simp only [Sem.run_pure, Result.andThen_ok, Sem.run_bind, run_choose, Question.forced, Bool.false_eq_true, if_false, run_askRoom, run_typeInfo hi, hold, h2, hz]
    refine ⟨Question.cut (.appendCap (sLen + n) sCap e) (w.tape w.drawn (.appendCap (sLen + n) sCap e)), Builtin.zeroCells z.cells (Question.cut (.appendCap (sLen + n) sCap e) (w.tape w.drawn (.appendCap (sLen + n) sCap e)) - (sLen + n)), ?_, ?_, ?_⟩
    · simp only [Question.cut]; omega
    · simp [Builtin.zeroCells, hzs]
    · simp [newRow, World.alloc_eq]; rfl

theorem drew_heap (w : World) (n : Nat) : ({ w with drawn := n } : World).heap = w.heap := rfl

theorem cellsAt_heap {w w' : World} (h : w'.heap = w.heap) {b off : Nat} {l : List Value} (hc : cellsAt w b off l) : cellsAt w' b off l := fun j v hj => by rw [cell?_heap h]; exact hc j v hj

theorem elems_draws {es : Nat} {y : AV} {ys : List AV} {yv : Value} (hI : Inv CR g s w) (hv : V g s w y yv) (h : elems s es y = some ys) :
    ∃ vs, VL g s w ys vs ∧ allLen es ys = true ∧ (Builtin.lenOf yv).run P w = .ok ys.length w ∧ (∀ dr, (Builtin.firstCells es ys.length yv).run P { w with drawn := dr } = .ok (flat vs).toArray { w with drawn := dr }) ∧ ∀ v ∈ flat vs, v.oneCell' = true := by
  obtain ⟨vs, h1, h2, h3, h4, h5⟩ := elems_ok (P := P) hI hv h
  refine ⟨vs, h1, h2, h3, fun dr => ?_, h5⟩
  have hL : Le g s w g s { w with drawn := dr } := Le.heap rfl
  cases y <;> simp only [elems] at h <;> try cases h
  case bl id e off n x =>
    split at h <;> try (cases h; done)
    rename_i he
    obtain ⟨rfl, hes⟩ := he
    split at h <;> try (cases h; done)
    rename_i cs hr
    split at h <;> try (cases h; done)
    rename_i ho
    cases h
    obtain ⟨us', r1, r2, r3, r4⟩ := rowB_ok hI hr
    obtain ⟨vs', f1, f2, f3⟩ := chunk_ok hes n r3 ho r1
    have hcl := chunk_len e n cs (by omega) hes
    simp only [V] at hv
    obtain ⟨o, cap, rfl, _, hz, _, hoff, _⟩ := hv
    simp only [Builtin.firstCells, hcl] at h4 ⊢
    by_cases h0 : n = 0
    · subst h0
      simp only [Nat.zero_mul, loadCells, loadCellsFrom, Sem.run_pure] at h4 ⊢
      injection h4 with h4 _
      rw [h4]
    · rw [hoff (by omega)] at h4 ⊢
      rw [run_loadCells r2 r4] at h4
      injection h4 with h4 _
      rw [← h4]
      exact run_loadCells r2 (cellsAt_heap rfl r4)
  case nsl =>
    simp only [V] at hv; subst hv
    simp only [VL] at h1; subst h1
    simp [Builtin.firstCells, flat]
  case wz =>
    simp only [V] at hv; obtain ⟨a, rfl⟩ := hv
    simp only [VL] at h1; subst h1
    simp [Builtin.firstCells, flat, loadCells, loadCellsFrom]
  case ws f e xs =>
    split at h
    · rename_i he
      cases h
      subst he
      rcases V_ws.1 hv with ⟨hv2, rfl⟩ | ⟨hv2, rfl⟩ | hv2
      · simp only [V] at hv2; subst hv2
        simp only [VL] at h1; subst h1
        simp [Builtin.firstCells, flat]
      · simp only [V] at hv2; obtain ⟨a, rfl⟩ := hv2
        simp only [VL] at h1; subst h1
        simp [Builtin.firstCells, flat, loadCells, loadCellsFrom]
      · simp only [V] at hv2
        obtain ⟨b, o, cap, vs', rfl, he, hal, hk, hv3⟩ := hv2
        obtain ⟨k1, k2, _, _⟩ := hv3 capM_ok.1
        have e1 : (flat vs).toArray = (flat vs').toArray := by
          have := run_loadCells (P := P) (flat_length k1 hal) k2
          simp only [Builtin.firstCells] at h4
          rw [this] at h4
          injection h4 with h4 _
          exact h4.symm
        rw [e1]
        simp only [Builtin.firstCells]
        exact run_loadCells (flat_length k1 hal) (cellsAt_heap rfl k2)
    · cases h
  case s l =>
    simp only [V] at hv
    obtain ⟨rfl, _⟩ := hv
    simp only [Builtin.firstCells, Sem.run_pure] at h4 ⊢
    injection h4 with h4 _
    rw [h4]
  case sl e xs m =>
    split at h
    · rename_i he
      cases h
      obtain ⟨rfl, hok⟩ := he
      simp only [V] at hv
      obtain ⟨b, o, cap, vs', rfl, he, hal, hk, hv⟩ := hv
      obtain ⟨k1, k2, _, _⟩ := hv hok
      have e1 : (flat vs).toArray = (flat vs').toArray := by
        have := run_loadCells (P := P) (flat_length k1 hal) k2
        simp only [Builtin.firstCells] at h4
        rw [this] at h4
        injection h4 with h4 _
        exact h4.symm
      rw [e1]
      simp only [Builtin.firstCells]
      exact run_loadCells (flat_length k1 hal) (cellsAt_heap rfl k2)
    · cases h

theorem Esc.tok (s : St) (f : St) (h1 : f.lo = s.lo) (h2 : f.nb = s.nb) (h3 : f.boxes = s.boxes) : Esc s f := Esc.same h1 (fun id _ => by simp [St.box?, h2, h3])

/-- A new row that may grow. -/
theorem newTok_good (hI : Inv CR g s w) {es cap : Nat} {xs : List AV} {vs : List Value} (he : 1 ≤ es) (ha : allLen es xs = true) (hV : VL g s w xs vs) {arr : Array Value} (T : Nat) {ty : Option Nat} {rest : List Value}
    (harr : arr.toList = flat vs ++ rest) (hcap : xs.length ≤ cap) (hsz : cap * es ≤ arr.size) {fr : Nat × Nat} (hfr : ∀ x, x < cap * es → ¬ (fr.1 ≤ x ∧ x < fr.2)) (hty : ∀ T', ty = some T' → T = T' ∧ fr.2 = 0) :
    Good CR g s w (s.newTok xs.length ty) (.sl es xs (.tok s.nt 0)) (.slice (some ⟨w.heap.size, 0, none⟩) xs.length cap) (w.alloc (.cells arr T fr)) := by
  have hL := Le.newTok hI xs.length es cap ty (.cells arr T fr)
  refine ⟨_, Inv.newTok hI xs.length es cap ty arr T fr hty he hcap hsz hfr, hL, ?_, Esc.tok _ _ rfl rfl rfl⟩
  have hfl := flat_length hV ha
  simp only [V]
  refine ⟨_, _, _, vs, rfl, ⟨he, hcap⟩, ha, ⟨by simp [St.newTok], fun t ht => Nat.zero_le _⟩, fun _ => ⟨VL_mono hL _ _ hV, fun j v hj => ?_, ?_, rfl, ?_, hcap, fun t ht => ?_⟩⟩
  · simp only [World.cell?, heap_alloc_new]
    have : arr.toList[j]? = some v := by
      rw [harr, List.getElem?_append_left (by rcases List.getElem?_eq_some_iff.1 hj with ⟨h, _⟩; exact h)]; exact hj
    simpa using this
  · right
    refine ⟨⟨xs.length, 0, 0, ty⟩, by rw [newTok_tok?, if_pos rfl], by simp [G.newTok], ?_⟩
    simp [G.newTok]
  · simp [G.newTok]
  · rw [newTok_tok?, if_pos rfl] at ht
    cases ht
    exact ⟨Nat.le_refl _, fun _ => by simp [G.newTok]⟩

theorem app_ok {es e : Nat} {x y r : AV} {xv yv : Value} {c : Array TypeId} {ty : TypeId} (hI : Inv CR g s w) (hT : AppT P c es e) (hx : V g s w x xv) (hy : V g s w y yv) (h : appA s es e x y = some (r, s')) :
    ∃ v w', (Builtin.append_ c ty #[xv, yv]).run P w = .ok v w' ∧ Good CR g s w s' r v w' := by
  unfold appA at h
  cases hel : elems s es y with
  | none => simp [hel] at h
  | some ys =>
    obtain ⟨us, hu1, hu2, hu3, hu4, hu6⟩ := elems_draws (P := P) hI hy hel
    have hu4' : (Builtin.firstCells es ys.length yv).run P w = .ok (flat us).toArray w := hu4 w.drawn
    have hes : 1 ≤ es := by obtain ⟨_, _, _, _, _, _, _, _, _, _, _, _, _, h, _⟩ := hT.ex; exact h
    have hfu := flat_length hu1 hu2
    cases ys with
    | nil =>
      simp only [hel] at h
      have hus : us = [] := by simpa [VL] using hu1
      subst hus
      have hsame : ∀ b n k, n ≤ k → xv = .slice b n k → (Builtin.append_ c ty #[xv, yv]).run P w = .ok xv w := by
        rintro b n k hnk rfl
        rw [(run_append (P := P) hT (base := b) (sLen := n) (sCap := k) (ty := ty) hu3 hu4).1 (by simpa using hnk)]
        cases b <;> simp [flat, storeCells]
      cases x <;> simp only at h <;> try (cases h; done)
      case nsl =>
        cases h
        have hx' := hx
        simp only [V] at hx'
        exact ⟨xv, w, hsame none 0 0 (Nat.le_refl _) hx', good_same hI hx⟩
      case sl e xs m =>
        cases h
        have hx' := hx
        simp only [V] at hx'
        obtain ⟨b, o, cap, vs, he, h1, h2, h3, h4⟩ := hx'
        exact ⟨xv, w, hsame _ _ _ h1.2 he, good_same hI hx⟩
      case bl id e off n q =>
        cases h
        have hx' := hx
        simp only [V] at hx'
        obtain ⟨o, cap, he, h1, h2, h3⟩ := hx'
        exact ⟨xv, w, hsame _ _ _ h2.2 he, good_same hI hx⟩
      case wz =>
        cases h
        have hx' := hx
        simp only [V] at hx'
        obtain ⟨a, hx'⟩ := hx'
        exact ⟨xv, w, hsame _ 0 0 (Nat.le_refl _) hx', good_same hI hx⟩
      case ws f e xs =>
        cases h
        rcases V_ws.1 hx with ⟨hx', _⟩ | ⟨hx', _⟩ | hx'
        · simp only [V] at hx'
          exact ⟨xv, w, hsame none 0 0 (Nat.le_refl _) hx', good_same hI hx⟩
        · simp only [V] at hx'
          obtain ⟨a, hx'⟩ := hx'
          exact ⟨xv, w, hsame _ 0 0 (Nat.le_refl _) hx', good_same hI hx⟩
        · simp only [V] at hx'
          obtain ⟨b, o, cap, vs, he, h1, h2, h3, h4⟩ := hx'
          exact ⟨xv, w, hsame _ _ _ h1.2 he, good_same hI hx⟩
    | cons y0 l =>
      simp only [hel] at h
      generalize hys : y0 :: l = ys at *
      have hpos : 1 ≤ ys.length := by rw [← hys]; simp
      have hdr : Le g s w g s { w with drawn := w.drawn + 1 } := Le.heap rfl
      have hIdr : Inv CR g s { w with drawn := w.drawn + 1 } := Inv.heap (w := w) rfl hI
      -- what new memory comes to, where the old cells are known
      have new : ∀ (base : Option Addr) (sLen sCap : Nat), sCap < sLen + ys.length → (sLen + ys.length) * es < 2 ^ 38 → ∀ (xs : List AV) (vs : List Value), xs.length = sLen → VL g s w xs vs → allLen es xs = true →
          (∀ dr, (Builtin.firstCells es sLen (.slice base sLen sCap)).run P { w with drawn := dr } = .ok (flat vs).toArray { w with drawn := dr }) →
          ∃ (cap : Nat) (arr : Array Value) (rest : List Value), sLen + ys.length ≤ cap ∧ arr.toList = flat (vs ++ us) ++ rest ∧ cap * es ≤ arr.size ∧
            (Builtin.append_ c ty #[.slice base sLen sCap, yv]).run P w = .ok (.slice (some ⟨w.heap.size, 0, none⟩) (sLen + ys.length) cap) ({ w with drawn := w.drawn + 1 }.alloc (.cells arr e)) := by
        intro base sLen sCap hlt hsm xs vs hxl hV hal hold
        obtain ⟨cap, rest, h1, h2, h3⟩ := (run_append (P := P) hT (base := base) (sLen := sLen) (sCap := sCap) (ty := ty) hu3 hu4).2 hlt hsm _ hold
        refine ⟨cap, _, rest.toList, h1, by simp [flat_append], ?_, h3⟩
        have hfx := flat_length hV hal
        simp only [Array.size_append, List.size_toArray, hfx, hfu, h2, hxl]
        rw [← Nat.add_mul, ← Nat.add_mul]
        exact Nat.mul_le_mul_right _ (by omega)
      have full : ∀ {xs : List AV} {xv : Value}, V g s w (.sl es xs .full) xv → (xs.length + ys.length) * es < 2 ^ 38 → ∃ v w', (Builtin.append_ c ty #[xv, yv]).run P w = .ok v w' ∧ Good CR g s w (s.newTok (xs.length + ys.length) (some e)) (.sl es (xs ++ ys) (.tok s.nt 0)) v w' := by
        intro xs xv hx hsm
        simp only [V] at hx
        obtain ⟨b, o, cap, vs, rfl, h1, h2, h3, h4⟩ := hx
        obtain ⟨k1, k2, k3, k4⟩ := h4 rfl
        simp only [CapIs] at k4
        subst k4
        obtain ⟨cap, arr, rest, j1, j2, j3, j4⟩ := new (some ⟨b, o, none⟩) xs.length xs.length (by omega) hsm xs vs rfl k1 h2 (fun dr => by
          simp only [Builtin.firstCells]; exact run_loadCells (flat_length k1 h2) (cellsAt_heap rfl k2))
        obtain hg := newTok_good (CR := CR) hIdr hes (allLen_append h2 hu2) (VL_mono hdr _ _ (VL_append k1 hu1)) e (rest := rest) j2 (by simpa using j1) j3 (ty := some e) (fr := (0, 0)) (fun x _ => by simp only; omega) (fun T' hT => ⟨by cases hT; rfl, rfl⟩)
        refine ⟨_, _, j4, ?_⟩
        simp only [List.length_append] at hg
        exact Good.from hdr (Esc.refl _) hg
      cases x <;> (try simp only at h) <;> try (cases h; done)
      case wz =>
        split at h
        · rename_i hsm
          cases h
          simp only [V] at hx; obtain ⟨ba, rfl⟩ := hx
          obtain ⟨cap, arr, rest, h1, h2, h3, h4⟩ := new (some ba) 0 0 (by omega) (by simpa using hsm) [] [] rfl (by simp [VL]) rfl (fun dr => by simp [Builtin.firstCells, flat, loadCells, loadCellsFrom])
          obtain hg := newTok_good (CR := CR) hIdr hes hu2 (VL_mono hdr _ _ hu1) e (rest := rest) (by simpa using h2) (by omega) h3 (ty := some e) (fr := (0, 0)) (fun x _ => by simp only; omega) (fun T' hT => ⟨by cases hT; rfl, rfl⟩)
          refine ⟨_, _, h4, ?_⟩
          simp only [Nat.zero_add]
          exact Good.from hdr (Esc.refl _) hg
        · cases h
      case nsl =>
        split at h
        · rename_i hsm
          cases h
          simp only [V] at hx; subst hx
          obtain ⟨cap, arr, rest, h1, h2, h3, h4⟩ := new none 0 0 (by omega) (by simpa using hsm) [] [] rfl (by simp [VL]) rfl (fun dr => by simp [Builtin.firstCells, flat])
          obtain hg := newTok_good (CR := CR) hIdr hes hu2 (VL_mono hdr _ _ hu1) e (rest := rest) (by simpa using h2) (by omega) h3 (ty := some e) (fr := (0, 0)) (fun x _ => by simp only; omega) (fun T' hT => ⟨by cases hT; rfl, rfl⟩)
          refine ⟨_, _, h4, ?_⟩
          simp only [Nat.zero_add]
          exact Good.from hdr (Esc.refl _) hg
        · cases h
      case ws f e0 xs =>
        cases f with
        | false => cases h
        | true =>
          simp only at h
          split at h
          · rename_i hc
            obtain ⟨he0, hsm⟩ := hc
            obtain rfl := he0.symm
            cases h
            have hx0 : (∃ a, xv = .slice a 0 0 ∧ xs = []) ∨ V g s w (.sl es xs .full) xv := by
              rcases V_ws.1 hx with ⟨hx2, rfl⟩ | ⟨hx2, rfl⟩ | hx2
              · simp only [V] at hx2; exact .inl ⟨_, hx2, rfl⟩
              · simp only [V] at hx2; obtain ⟨a, hx2⟩ := hx2; exact .inl ⟨_, hx2, rfl⟩
              · exact .inr hx2
            rcases hx0 with ⟨ba, rfl, rfl⟩ | hx2
            · obtain ⟨cap, arr, rest, h1, h2, h3, h4⟩ := new ba 0 0 (by omega) (by simpa using hsm) [] [] rfl (by simp [VL]) rfl (fun dr => by cases ba <;> simp [Builtin.firstCells, flat, loadCells, loadCellsFrom])
              obtain hg := newTok_good (CR := CR) hIdr hes hu2 (VL_mono hdr _ _ hu1) e (rest := rest) (by simpa using h2) (by omega) h3 (ty := some e) (fr := (0, 0)) (fun x _ => by simp only; omega) (fun T' hT => ⟨by cases hT; rfl, rfl⟩)
              refine ⟨_, _, h4, ?_⟩
              simp only [Nat.zero_add, List.length_nil, List.nil_append]
              exact Good.from hdr (Esc.refl _) hg
            · exact full hx2 hsm
          · cases h
      case bl id e0 off n q =>
          have hx0 := hx
          simp only [V] at hx
          obtain ⟨o, cap, rfl, hid, hz, hq, ho1, ho2⟩ := hx
          split at h
          · rename_i hc
            obtain ⟨he0, hex, hfull, hsm⟩ := hc
            have hqq := hq.2 hex
            obtain rfl := he0.symm
            split at h <;> try (cases h; done)
            rename_i cs hr
            split at h <;> try (cases h; done)
            rename_i hone
            cases h
            obtain ⟨us', r1, r2, r3, r4⟩ := rowB_ok hI hr
            obtain ⟨vs, f1, f2, f3⟩ := chunk_ok hes n r3 hone r1
            have hcl := chunk_len es n cs (by omega) hes
            have hcap : cap < n + ys.length := by
              have : cap * es < (n + ys.length) * es := by omega
              exact Nat.lt_of_mul_lt_mul_right this
            obtain ⟨cap2, arr, rest, j1, j2, j3, j4⟩ := new (some ⟨g.bx id, o, none⟩) n cap hcap hsm (chunk es n cs) vs hcl f1 f3 (fun dr => by
              simp only [Builtin.firstCells, f2]
              by_cases h0 : n = 0
              · subst h0
                have : us' = [] := List.length_eq_zero_iff.1 (by omega)
                subst this
                simp [loadCells, loadCellsFrom]
              · rw [ho1 (by omega)]
                exact run_loadCells r2 (cellsAt_heap rfl r4))
            obtain hg := newTok_good (CR := CR) hIdr hes (allLen_append f3 hu2) (VL_mono hdr _ _ (VL_append f1 hu1)) e (rest := rest) j2 (by simpa [hcl] using j1) j3 (ty := some e) (fr := (0, 0)) (fun x _ => by simp only; omega) (fun T' hT => ⟨by cases hT; rfl, rfl⟩)
            refine ⟨_, _, j4, ?_⟩
            simp only [List.length_append, hcl] at hg
            exact Good.from hdr (Esc.refl _) hg
          · split at h <;> try (cases h; done)
            rename_i hc
            obtain ⟨he0, hroom⟩ := hc
            obtain rfl := he0.symm
            split at h <;> try (cases h; done)
            rename_i s1 hs
            cases h
            have hle : n + ys.length ≤ cap := by
              have : (n + ys.length) * es ≤ cap * es := by have := hq.1; omega
              exact Nat.le_of_mul_le_mul_right this (by omega)
            have hoff : o = off := ho1 (by omega)
            subst hoff
            have ha : V g s w (.p id (o + n * es)) (.pointer (some ⟨g.bx id, o + n * es, none⟩)) := by simp only [V]; exact ⟨hid, trivial⟩
            have hv : V g s w (.agg (flatC ys)) (.agg (flat us).toArray) := by simp only [V]; exact ⟨_, VL_flatC hu1, rfl⟩
            obtain ⟨w', ⟨ad, h1, _, h3⟩, g1, i1, i2, _, i4⟩ := st_cells (P := P) hI ha hv hs
            simp only [Value.pointer.injEq, Option.some.injEq] at h1
            subst h1
            refine ⟨.slice (some ⟨g.bx id, o, none⟩) (n + ys.length) cap, w', ?_, g1, i1, i2, ?_, i4⟩
            · rw [(run_append (P := P) hT (base := some ⟨g.bx id, o, none⟩) (sLen := n) (sCap := cap) (ty := ty) hu3 hu4).1 hle]
              have h4 : (storeCells ⟨g.bx id, o + n * es, none⟩ (flat us).toArray.toList).run P w = .ok () w' := h3
              simp only [addr_add]
              rw [h4]; rfl
            · have := V_mono i2 _ _ hx0
              simp only [V] at this ⊢
              obtain ⟨o2, cap2, e1, e2, e3, e4, e5, e6⟩ := this
              injection e1 with e1a e1b e1c
              subst e1c
              refine ⟨o2, cap, by rw [← e1a], e2, ⟨hes, hle⟩, e4, e5, e6⟩
      case sl e0 xs m =>
        cases m with
        | shut => cases h
        | full =>
          try simp only at h
          split at h
          · rename_i hc
            obtain ⟨he0, hsm⟩ := hc
            obtain rfl := he0.symm
            cases h
            exact full hx hsm
          · cases h
        | tok k u =>
          try simp only at h
          cases ht : s.tok? k with
          | none => simp [ht] at h
          | some t =>
            simp only [ht] at h
            split at h
            · rename_i hc
              obtain ⟨he0, hver, hfront, hty, hsm⟩ := hc
              obtain rfl := he0.symm
              cases h
              simp only [V] at hx
              obtain ⟨b, o, cap, vs, rfl, h1, h2, h3, h4⟩ := hx
              have hok : s.ok (.tok k u) = true := ok_iff.2 ⟨t, ht, hver⟩
              obtain ⟨k1, k2, k3, k4⟩ := h4 hok
              obtain ⟨rfl, hes', hcap, k5⟩ := k4
              obtain ⟨_, k6⟩ := k5 t ht
              have htk := k6 hfront
              have hTok := hI.tok k t ht
              have hfx := flat_length k1 h2
              by_cases hle : xs.length + ys.length ≤ cap
              · -- it grows where it lies
                obtain ⟨arr, T, fr, r1, r2, r3, r4⟩ := hTok.row
                simp only [htk] at r1 r2 r3
                have hmul : (xs.length + ys.length) * es ≤ cap * es := Nat.mul_le_mul_right _ hle
                rw [Nat.add_mul] at hmul
                have hpub : t.pub * es ≤ xs.length * es := Nat.mul_le_mul_right _ (by have := hTok.pub; omega)
                have hone : ∀ v ∈ (flat us).toArray.toList, v.oneCell' = true := fun v hv => hu6 v (by simpa using hv)
                obtain ⟨w', arr', e1, e2, e3, e4, e5, e6⟩ := run_storeCells (P := P) (b := b) (off := xs.length * es) (flat us).toArray.toList 0 w arr hone r1 (by simp only [List.size_toArray, hfu]; omega)
                  (fun x hx1 hx2 => r3 x (by omega) (by simp only [List.size_toArray, hfu] at hx2; omega))
                have hh : ∀ c, c ≠ (g.tk k).blk → w'.heap[c]? = w.heap[c]? := by rw [htk]; exact e3
                have hold : ∀ x : Nat, x < t.front * (g.tk k).es → arr'[x]? = arr[x]? := fun x hx => by
                  rw [e6 x, if_neg (by rw [hfront, htk] at hx; simp only at hx; omega)]
                have hL := Le.grow (m := ys.length) (w' := w') (arr := arr) (arr' := arr') (T := T) (fr := fr) hI ht e2.1 e2.2 hh (by rw [htk]; exact r1) (by rw [htk]; exact e4) hold
                have hI2 := Inv.grow (m := ys.length) (w' := w') (arr := arr) (arr' := arr') (T := T) (fr := fr) hI ht e2.1 e2.2 hh (by rw [htk]; exact r1) (by rw [htk]; exact e4) e5 hold (by rw [htk]; simp only; omega)
                rw [hfront] at hL hI2
                have hVL := VL_mono hL _ _ (VL_append k1 hu1)
                have hal := allLen_append h2 hu2
                refine ⟨_, _, by
                  rw [(run_append (P := P) hT (base := some ⟨b, 0, none⟩) (sLen := xs.length) (sCap := cap) (ty := ty) hu3 hu4).1 hle]
                  simp only [addr_add, Nat.zero_add]
                  rw [e1]; rfl, g, hI2, hL, ?_, Esc.tok _ _ rfl rfl rfl⟩
                simp only [V]
                refine ⟨b, 0, cap, vs ++ us, by simp, ⟨hes, by simpa using hle⟩, hal, ⟨tok?_lt (s := s) ht, fun t1 ht1 => ?_⟩, fun _ => ⟨hVL, fun j v hj => ?_, ?_, rfl, hes', by simpa using hle, fun t1 ht1 => ?_⟩⟩
                · rw [setTok_tok? hI.lenT (tok?_lt ht), if_pos rfl] at ht1; cases ht1; simp only; omega
                · rw [flat_append] at hj
                  simp only [World.cell?, e4]
                  have h6 := e6 j
                  by_cases hj2 : j < xs.length * es
                  · rw [List.getElem?_append_left (by omega)] at hj
                    rw [if_neg (by omega)] at h6
                    have := k2 j v hj
                    simp only [World.cell?, r1, Nat.zero_add] at this
                    simp only [Nat.zero_add]
                    rw [h6]; simpa using this
                  · have hlt : j < xs.length * es + ys.length * es := by
                      rcases List.getElem?_eq_some_iff.1 hj with ⟨h, _⟩
                      simp only [List.length_append] at h; omega
                    rw [List.getElem?_append_right (by omega), hfx] at hj
                    rw [if_pos (by simp only [List.size_toArray, hfu]; omega)] at h6
                    simp only [Nat.zero_add]
                    simp only [Nat.add_zero] at h6
                    rw [h6]; simpa using hj
                · right
                  refine ⟨_, by rw [setTok_tok? hI.lenT (tok?_lt ht), if_pos rfl], by rw [htk], ?_⟩
                  simp [htk]
                · rw [setTok_tok? hI.lenT (tok?_lt ht), if_pos rfl] at ht1
                  cases ht1
                  exact ⟨by simp, fun _ => htk⟩
              · -- it grows in new memory
                obtain ⟨cap', arr, rest, j1, j2, j3, j4⟩ := new (some ⟨b, 0, none⟩) xs.length cap (by omega) hsm xs vs rfl k1 h2 (fun dr => by
                  simp only [Builtin.firstCells]; exact run_loadCells (flat_length k1 h2) (cellsAt_heap rfl k2))
                have hL := Le.moved (m := ys.length) (cap := cap') hIdr ht hpos (.cells arr e)
                have hI2 := Inv.moved (m := ys.length) (cap := cap') hIdr ht hpos arr e (fun T' hT => by rw [hT] at hty; exact (Nat.eq_of_beq_eq_true hty).symm) (by omega) (by rw [hes']; exact j3)
                rw [hfront] at hL hI2
                refine ⟨_, _, j4, _, hI2, hdr.trans hL, ?_, Esc.tok _ _ rfl rfl rfl⟩
                have hVL := VL_mono (hdr.trans hL) _ _ (VL_append k1 hu1)
                have hal := allLen_append h2 hu2
                have hfl := flat_length hVL hal
                simp only [V]
                refine ⟨w.heap.size, 0, cap', vs ++ us, by simp, ⟨hes, by simpa using j1⟩, hal, ⟨tok?_lt (s := s) ht, fun t1 ht1 => ?_⟩, fun _ => ⟨hVL, fun j v hj => ?_, ?_, rfl, ?_, by simpa using j1, fun t1 ht1 => ?_⟩⟩
                · rw [setTok_tok? hI.lenT (tok?_lt ht), if_pos rfl] at ht1; cases ht1; simp only; omega
                · simp only [World.cell?, heap_alloc_new]
                  have : arr.toList[j]? = some v := by
                    rw [j2, List.getElem?_append_left (by rcases List.getElem?_eq_some_iff.1 hj with ⟨h, _⟩; exact h)]; exact hj
                  simpa using this
                · right
                  refine ⟨_, by rw [setTok_tok? hI.lenT (tok?_lt ht), if_pos rfl], by simp [G.moved], ?_⟩
                  simp [G.moved, hes']
                · simp [G.moved, hes']
                · rw [setTok_tok? hI.lenT (tok?_lt ht), if_pos rfl] at ht1
                  cases ht1
                  exact ⟨by simp, fun _ => by simp [G.moved, hes']⟩
            · cases h
end Go.Proofs.YtfaodjpibdhdjaaDoor.Am
