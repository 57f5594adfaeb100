/-
  Cutting slices and texts, fields, indexes, arithmetic.
-/
import Derived.Test.YtfaodjpibdhdjaaDoorAmOps4
set_option linter.all false
set_option linter.unusedVariables false
set_option linter.unusedSimpArgs false
set_option linter.unusedSectionVars false
set_option linter.constructorNameAsVariable false
namespace Go.Proofs.YtfaodjpibdhdjaaDoor.Am
variable {CR : Nat → Code → C → Prop} {P : Program} {g : G} {s s' : St} {w : World}

theorem natOf_ok {a : AV} {v : Value} {n : Nat} (hv : V g s w a v) (h : natOf a = some n) : ∃ k, v = .int k (n : Int) := by
  cases a <;> simp only [natOf] at h <;> try (cases h; done)
  rename_i k m
  split at h
  · rename_i h0
    cases h
    simp only [V] at hv
    exact ⟨k, by rw [hv]; congr 1; omega⟩
  · cases h

theorem run_asIntOf (k : IntKind) (n : Int) : (asIntOf (.int k n)).run P w = .ok (k, n) w := rfl

/-! ### Bounds -/
theorem run_sliceBound {k : IntKind} {n y : Nat} {c : BoundsCode} (h : n ≤ y) : (Instr.sliceBound (.int k (n : Int)) y c).run P w = .ok n w := by
  simp only [Instr.sliceBound, Sem.run_bind, run_asIntOf, Result.andThen_ok]
  rw [if_pos ⟨by omega, by omega⟩]
  simp

/-- What holds of an operand that may be missing. -/
def VO (g : G) (s : St) (w : World) : Option AV → Option Value → Prop
  | none, none => True
  | some a, some v => V g s w a v
  | _, _ => False

theorem run_bounds {isS : Bool} {len cap : Nat} (hc : len ≤ cap) {lo hi : Option AV} {lv hv : Option Value} (hl : VO g s w lo lv) (hh : VO g s w hi hv) {l h : Nat} (hb : bounds len lo hi = some (l, h)) :
    (Instr.sliceBounds isS len cap lv hv none).run P w = .ok (l, h, cap) w ∧ l ≤ h ∧ h ≤ len := by
  unfold bounds at hb
  have key : ∃ l' h', (match lo with | some v => natOf v | none => some 0) = some l' ∧ (match hi with | some v => natOf v | none => some len) = some h' ∧ l' ≤ h' ∧ h' ≤ len ∧ l' = l ∧ h' = h := by
    have fin : ∀ a b : Nat, (if a ≤ b ∧ b ≤ len then some (a, b) else none) = some (l, h) → a ≤ b ∧ b ≤ len ∧ a = l ∧ b = h := by
      intro a b hab
      split at hab
      · rename_i hle; cases hab; exact ⟨hle.1, hle.2, rfl, rfl⟩
      · cases hab
    cases lo with
    | none =>
      cases hi with
      | none => simp only at hb ⊢; exact ⟨_, _, rfl, rfl, fin _ _ hb⟩
      | some hi =>
        simp only at hb ⊢
        cases hy : natOf hi with
        | none => rw [hy] at hb; simp at hb
        | some h' => rw [hy] at hb; exact ⟨_, _, rfl, rfl, fin _ _ hb⟩
    | some lo =>
      cases hx : natOf lo with
      | none => simp only [hx] at hb; simp at hb
      | some l' =>
        cases hi with
        | none => simp only [hx] at hb ⊢; exact ⟨_, _, rfl, rfl, fin _ _ hb⟩
        | some hi =>
          simp only [hx] at hb ⊢
          cases hy : natOf hi with
          | none => rw [hy] at hb; simp at hb
          | some h' => rw [hy] at hb; exact ⟨_, _, rfl, rfl, fin _ _ hb⟩
  obtain ⟨l', h', h1, h2, h3, h4, rfl, rfl⟩ := key
  refine ⟨?_, h3, h4⟩
  have e1 : ∀ c : BoundsCode, (match hv with | some v => Instr.sliceBound v cap c | none => (pure len : Sem Nat)).run P w = .ok h' w := by
    intro c
    cases hi <;> cases hv <;> simp only [VO] at hh
    · simp only at h2; cases h2; rfl
    · simp only at h2
      obtain ⟨k, rfl⟩ := natOf_ok hh h2
      exact run_sliceBound (by omega)
  have e2 : ∀ c : BoundsCode, (match lv with | some v => Instr.sliceBound v h' c | none => (pure 0 : Sem Nat)).run P w = .ok l' w := by
    intro c
    cases lo <;> cases lv <;> simp only [VO] at hl
    · simp only at h1; cases h1; rfl
    · simp only at h1
      obtain ⟨k, rfl⟩ := natOf_ok hl h1
      exact run_sliceBound (by omega)
  cases hv with
  | none =>
    have e1' := e1 .index
    simp only at e1'
    cases lv with
    | none =>
      have e2' := e2 .index
      simp only at e2'
      simp only [Sem.run_pure] at e1' e2'
      cases e1'; cases e2'
      simp [Instr.sliceBounds]
    | some v =>
      have e2' := e2 .sliceB
      simp only at e2'
      simp only [Sem.run_pure] at e1'
      cases e1'
      simp [Instr.sliceBounds, e2']
  | some u =>
    have e1' := e1 (if isS then .sliceAcap else .sliceAlen)
    simp only at e1'
    cases lv with
    | none =>
      have e2' := e2 .index
      simp only [Sem.run_pure] at e2'
      cases e2'
      simp [Instr.sliceBounds, e1']
    | some v =>
      have e2' := e2 .sliceB
      simp only at e2'
      simp [Instr.sliceBounds, e1', e2']

/-- With a third bound, which is the second one. -/
theorem run_bounds3 {isS : Bool} {len cap : Nat} (hc : len ≤ cap) {lo hi : Option AV} {lv hv : Option Value} {m : AV} {mv : Value} (hl : VO g s w lo lv) (hh : VO g s w hi hv) (hm : V g s w m mv) {l h : Nat}
    (hb : bounds len lo hi = some (l, h)) (hn : natOf m = some h) (hsome : hi.isSome = true) :
    (Instr.sliceBounds isS len cap lv hv (some mv)).run P w = .ok (l, h, h) w ∧ l ≤ h ∧ h ≤ len := by
  unfold bounds at hb
  obtain ⟨km, rfl⟩ := natOf_ok hm hn
  cases hi with
  | none => cases hsome
  | some hi =>
    cases hv with
    | none => simp [VO] at hh
    | some u =>
      simp only [VO] at hh
      simp only at hb
      cases hy : natOf hi with
      | none => rw [hy] at hb; simp at hb
      | some h' =>
        rw [hy] at hb
        obtain ⟨k, rfl⟩ := natOf_ok hh hy
        cases lo with
        | none =>
          cases lv with
          | some _ => simp [VO] at hl
          | none =>
            simp only at hb
            split at hb
            · rename_i hle
              cases hb
              refine ⟨?_, hle.1, hle.2⟩
              simp only [Instr.sliceBounds, Sem.run_bind]
              rw [run_sliceBound (by omega)]
              simp only [Result.andThen_ok, Sem.run_bind]
              rw [run_sliceBound (Nat.le_refl _)]
              simp
            · cases hb
        | some lo =>
          cases lv with
          | none => simp [VO] at hl
          | some v =>
            simp only [VO] at hl
            simp only at hb
            cases hx : natOf lo with
            | none => rw [hx] at hb; simp at hb
            | some l' =>
              rw [hx] at hb
              obtain ⟨k2, rfl⟩ := natOf_ok hl hx
              simp only at hb
              split at hb
              · rename_i hle
                cases hb
                refine ⟨?_, hle.1, hle.2⟩
                simp only [Instr.sliceBounds, Sem.run_bind]
                rw [run_sliceBound (by omega)]
                simp only [Result.andThen_ok, Sem.run_bind]
                rw [run_sliceBound (Nat.le_refl _)]
                simp only [Result.andThen_ok, Sem.run_bind]
                rw [run_sliceBound hle.1]
                simp
              · cases hb

/-- With any third bound. -/
theorem run_bounds4 {isS : Bool} {len cap N c : Nat} {lo hi : Option AV} {lv hv : Option Value} {m : AV} {mv : Value} (hl : VO g s w lo lv) (hh : VO g s w hi hv) (hm : V g s w m mv) {l h : Nat}
    (hb : bounds N lo hi = some (l, h)) (hn : natOf m = some c) (hsome : hi.isSome = true) (hhc : h ≤ c) (hcc : c ≤ cap) :
    (Instr.sliceBounds isS len cap lv hv (some mv)).run P w = .ok (l, h, c) w ∧ l ≤ h := by
  unfold bounds at hb
  obtain ⟨km, rfl⟩ := natOf_ok hm hn
  cases hi with
  | none => cases hsome
  | some hi =>
    cases hv with
    | none => simp [VO] at hh
    | some u =>
      simp only [VO] at hh
      simp only at hb
      cases hy : natOf hi with
      | none => rw [hy] at hb; simp at hb
      | some h' =>
        rw [hy] at hb
        obtain ⟨k, rfl⟩ := natOf_ok hh hy
        cases lo with
        | none =>
          cases lv with
          | some _ => simp [VO] at hl
          | none =>
            simp only at hb
            split at hb
            · rename_i hle
              cases hb
              refine ⟨?_, hle.1⟩
              simp only [Instr.sliceBounds, Sem.run_bind]
              rw [run_sliceBound (by omega)]
              simp only [Result.andThen_ok, Sem.run_bind]
              rw [run_sliceBound hhc]
              simp
            · cases hb
        | some lo =>
          cases lv with
          | none => simp [VO] at hl
          | some v =>
            simp only [VO] at hl
            simp only at hb
            cases hx : natOf lo with
            | none => rw [hx] at hb; simp at hb
            | some l' =>
              rw [hx] at hb
              obtain ⟨k2, rfl⟩ := natOf_ok hl hx
              simp only at hb
              split at hb
              · rename_i hle
                cases hb
                refine ⟨?_, hle.1⟩
                simp only [Instr.sliceBounds, Sem.run_bind]
                rw [run_sliceBound (by omega)]
                simp only [Result.andThen_ok, Sem.run_bind]
                rw [run_sliceBound hhc]
                simp only [Result.andThen_ok, Sem.run_bind]
                rw [run_sliceBound hle.1]
                simp
              · cases hb

/-! ### Slices cut -/
theorem allLen_take {n : Nat} : ∀ {l : List AV} (k : Nat), allLen n l = true → allLen n (l.take k) = true
  | _, 0, _ => rfl
  | [], k + 1, _ => rfl
  | a :: l, k + 1, h => by
    simp only [allLen, Bool.and_eq_true] at h
    simp only [List.take_succ_cons, allLen, Bool.and_eq_true]
    exact ⟨h.1, allLen_take k h.2⟩
theorem allLen_drop {n : Nat} : ∀ {l : List AV} (k : Nat), allLen n l = true → allLen n (l.drop k) = true
  | _, 0, h => by simpa using h
  | [], k + 1, _ => rfl
  | a :: l, k + 1, h => by
    simp only [allLen, Bool.and_eq_true] at h
    simpa using allLen_drop k h.2

theorem flat_take {es : Nat} : ∀ {xs : List AV} {vs : List Value} (k : Nat), VL g s w xs vs → allLen es xs = true → flat (vs.take k) = (flat vs).take (k * es)
  | _, _, 0, _, _ => by simp [flat]
  | [], vs, k + 1, h, _ => by simp only [VL] at h; subst h; simp [flat]
  | a :: l, vs, k + 1, h, ha => by
    simp only [VL] at h
    obtain ⟨v, r, rfl, h1, h2⟩ := h
    simp only [allLen, Bool.and_eq_true] at ha
    have hsz := V_size h1
    have hx := Nat.eq_of_beq_eq_true ha.1.1
    have hl : v.cells.toList.length = es := by rw [Array.length_toList]; omega
    simp only [List.take_succ_cons, flat_cons]
    rw [flat_take k h2 ha.2, Nat.add_mul, Nat.one_mul, Nat.add_comm, List.take_append, hl]
    rw [show es + k * es - es = k * es by omega, List.take_of_length_le (by omega : v.cells.toList.length ≤ es + k * es)]
theorem flat_drop {es : Nat} : ∀ {xs : List AV} {vs : List Value} (k : Nat), VL g s w xs vs → allLen es xs = true → flat (vs.drop k) = (flat vs).drop (k * es)
  | _, _, 0, _, _ => by simp
  | [], vs, k + 1, h, _ => by simp only [VL] at h; subst h; simp [flat]
  | a :: l, vs, k + 1, h, ha => by
    simp only [VL] at h
    obtain ⟨v, r, rfl, h1, h2⟩ := h
    simp only [allLen, Bool.and_eq_true] at ha
    have hsz := V_size h1
    have hx := Nat.eq_of_beq_eq_true ha.1.1
    have hl : v.cells.toList.length = es := by rw [Array.length_toList]; omega
    simp only [List.drop_succ_cons, flat_cons]
    rw [flat_drop k h2 ha.2, Nat.add_mul, Nat.one_mul, Nat.add_comm (k * es) es, ← List.drop_drop, List.drop_left' hl]

/-- A part of a slice that is safe. -/
theorem part_ok {es : Nat} {xs : List AV} {b o cap cap' l h : Nat} {vs : List Value} {m : Cap} (he : 1 ≤ es) (ha : allLen es xs = true) (hV : VL g s w xs vs) (hc : cellsAt w b o (flat vs)) (hs : safe g b (o + xs.length * es))
    (hlh : l ≤ h) (hhl : h ≤ xs.length) (hcap : h - l ≤ cap') (hm : m = .full ∧ cap' = h - l ∨ m = .shut) {b' o' : Nat} (hbo : b' = b ∧ (o' = o + l * es ∨ (cap' = 0 ∧ o' = o))) :
    V g s w (.sl es ((xs.drop l).take (h - l)) m) (.slice (some ⟨b', o', none⟩) (h - l) cap') := by
  obtain ⟨rfl, hbo⟩ := hbo
  have hlen : ((xs.drop l).take (h - l)).length = h - l := by simp; omega
  have hmul1 : l * es ≤ xs.length * es := Nat.mul_le_mul_right _ (by omega)
  have hmul2 : h * es ≤ xs.length * es := Nat.mul_le_mul_right _ hhl
  have hmul3 : h * es = l * es + (h - l) * es := by rw [← Nat.add_mul]; congr 1; omega
  simp only [V]
  refine ⟨b', o', cap', (vs.drop l).take (h - l), by rw [hlen], ⟨he, by omega⟩, allLen_take _ (allLen_drop _ ha), by rcases hm with ⟨rfl, _⟩ | rfl <;> trivial, fun _ => ⟨VL_take _ (VL_drop _ hV), ?_, ?_, ?_⟩⟩
  · rw [flat_take (h - l) (VL_drop l hV) (allLen_drop l ha), flat_drop l hV ha]
    rcases hbo with rfl | ⟨rfl, rfl⟩
    · exact cellsAt_cut hc
    · have : (h - l) * es = 0 := by rw [show h - l = 0 by omega]; simp
      rw [this]; intro j v hj; simp at hj
  · have : safe g b' (o' + ((xs.drop l).take (h - l)).length * es) := by
      rw [hlen]
      rcases hs with hs | hs
      · exact .inl hs
      · right
        rcases hbo with rfl | ⟨rfl, rfl⟩
        · omega
        · rw [show h - l = 0 by omega]; omega
    rcases hm with ⟨rfl, _⟩ | rfl <;> exact this
  · rcases hm with ⟨rfl, hm⟩ | rfl
    · simp only [CapIs]; rw [hlen]; exact hm
    · simp only [CapIs]; rw [hlen]; omega

theorem bl_part {id es off n o cap l h : Nat} {x : Nat × Bool} (hid : id < s.nb) (hz : 1 ≤ es ∧ n ≤ cap) (hx1 : x.1 ≤ off + cap * es ∧ (x.2 = true → off + cap * es = x.1)) (hx2 : 0 < cap → o = off) (hx3 : o ≤ off) (hlh : l ≤ h) (hh : h ≤ cap) :
    V g s w (.bl id es (off + l * es) (h - l) x) (.slice (if cap = l then some ⟨g.bx id, o, none⟩ else (some (⟨g.bx id, o, none⟩ : Addr)).map (·.add (l * es))) (h - l) (cap - l)) := by
  simp only [V]
  have hm : l * es + (cap - l) * es = cap * es := by rw [← Nat.add_mul]; congr 1; omega
  by_cases hc : cap = l
  · rw [if_pos hc]
    refine ⟨o, cap - l, rfl, hid, ⟨hz.1, by omega⟩, ⟨by omega, fun y => by have := hx1.2 y; omega⟩, fun h0 => by omega, by omega⟩
  · rw [if_neg hc]
    refine ⟨o + l * es, cap - l, by simp [addr_add], hid, ⟨hz.1, by omega⟩, ⟨by omega, fun y => by have := hx1.2 y; omega⟩, fun h0 => by rw [hx2 (by omega)], by omega⟩

theorem slcA_ok {t e es len : Nat} (hI : Inv CR g s w) (hu : P.underlying t = some (.array len e)) (hn : sizeT P e = some es) (hes : 1 ≤ es) {id off : Nat} {xv : Value} {lo hi : Option AV} {lv hv : Option Value}
    (hx : V g s w (.p id off) xv) (hlo : VO g s w lo lv) (hhi : VO g s w hi hv) {l h : Nat} (hb : bounds len lo hi = some (l, h)) :
    ∃ v, (Instr.sliceAt t xv lv hv none).run P w = .ok v w ∧ V g s w (.bl id es (off + l * es) (h - l) (off + len * es, true)) v := by
  simp only [V] at hx
  obtain ⟨hid, rfl⟩ := hx
  obtain ⟨e1, e2, e3⟩ := run_bounds (P := P) (isS := false) (Nat.le_refl len) hlo hhi hb
  have := bl_part (g := g) (w := w) (es := es) (off := off) (n := len) (o := off) (cap := len) (l := l) (h := h) (x := (off + len * es, true)) hid ⟨hes, Nat.le_refl _⟩ ⟨Nat.le_refl _, fun _ => rfl⟩ (fun _ => rfl) (Nat.le_refl _) (by omega) (by omega)
  refine ⟨_, ?_, this⟩
  simp only [Instr.sliceAt, Sem.run_bind, run_underlying hu, Result.andThen_ok, Instr.sureAddr, Sem.run_pure, e1, run_sizeOf hn]
  by_cases hc : len = l <;> simp [hc]

theorem run_slice {t e es : Nat} (hu : P.underlying t = some (.slice e)) (hn : sizeT P e = some es) {b : Option Addr} {len cap l h m : Nat} {lv hv mv : Option Value}
    (hb : (Instr.sliceBounds true len cap lv hv mv).run P w = .ok (l, h, m) w) :
    (Instr.sliceAt t (.slice b len cap) lv hv mv).run P w = .ok (.slice (if m = l then b else b.map (·.add (l * es))) (h - l) (m - l)) w := by
  simp [Instr.sliceAt, Instr.slice, run_underlying hu, hb, run_sizeOf hn]

theorem slc_ok0 {t e es : Nat} {pop : Bool} (hI : Inv CR g s w) (hu : P.underlying t = some (.slice e)) (hn : sizeT P e = some es) {x r : AV} {xv : Value} {lo hi mx : Option AV} {lv hv mv : Option Value}
    (hx : V g s w x xv) (hlo : VO g s w lo lv) (hhi : VO g s w hi hv) (hmx : VO g s w mx mv) (h : sliceA s pop es x lo hi mx = some (r, s')) (h3 : mx.isSome = true → hi.isSome = true) (hnw : ∀ f e xs, x ≠ .ws f e xs) :
    ∃ v, (Instr.sliceAt t xv lv hv mv).run P w = .ok v w ∧ Good CR g s w s' r v w := by
  cases x <;> simp only [sliceA] at h <;> try (cases h; done)
  case ws f e xs => exact absurd rfl (hnw f e xs)
  case bl id e' off n x =>
    split at h <;> try (cases h; done)
    rename_i l hh hb
    by_cases hes : es = e'
    case neg => rw [if_neg hes] at hb; cases hb
    subst hes
    rw [if_pos rfl] at hb
    simp only [V] at hx
    obtain ⟨o, cap, rfl, hid, hz, hx1, hx2, hx3⟩ := hx
    have hcb : blCap es off n x ≤ cap := by
      unfold blCap
      refine Nat.max_le.2 ⟨hz.2, ?_⟩
      refine Nat.le_of_mul_le_mul_right (c := es) ?_ (by omega)
      have := Nat.div_mul_le_self (x.1 - off) es
      omega
    cases mx with
    | none =>
      cases h
      cases mv with
      | some _ => simp [VO] at hmx
      | none =>
        cases hi with
        | none =>
          obtain ⟨e1, e2, e3⟩ := run_bounds (P := P) (isS := true) hz.2 hlo hhi hb
          exact ⟨_, run_slice hu hn e1, good_same hI (bl_part hid hz hx1 hx2 hx3 (by omega) (by omega))⟩
        | some hi =>
          obtain ⟨e1, e2, e3⟩ := run_bounds (P := P) (isS := true) hcb hlo hhi hb
          refine ⟨_, run_slice hu hn (b := some ⟨g.bx id, o, none⟩) (len := n) (cap := cap) (l := l) (h := hh) (m := cap) ?_, good_same hI (bl_part hid hz hx1 hx2 hx3 (by omega) (by omega))⟩
          cases hv with
          | none => simp [VO] at hhi
          | some u => exact e1
    | some mm =>
      cases mv with
      | none => simp [VO] at hmx
      | some mmv =>
        simp only [VO] at hmx
        simp only at h
        split at h <;> try (cases h; done)
        rename_i c hnat
        split at h <;> try (cases h; done)
        rename_i hc
        cases h
        cases hi with
        | none => cases h3 rfl
        | some hi =>
          obtain ⟨e1, e2⟩ := run_bounds4 (P := P) (isS := true) (len := n) (cap := cap) hlo hhi hmx hb hnat rfl hc.1 (by omega)
          refine ⟨_, run_slice hu hn e1, good_same hI ?_⟩
          exact bl_part (n := 0) hid ⟨hz.1, Nat.zero_le _⟩ ⟨Nat.le_refl _, fun _ => rfl⟩ (fun h0 => hx2 (by omega)) hx3 e2 hc.1
  case wz =>
    simp only [V] at hx; obtain ⟨ba, rfl⟩ := hx
    cases hb : bounds 0 lo hi with
    | none => simp [hb] at h
    | some p =>
      obtain ⟨l, hh⟩ := p
      simp only [hb] at h
      cases mx with
      | none =>
        cases mv with
        | some _ => simp [VO] at hmx
        | none =>
          simp only at h; cases h
          obtain ⟨e1, e2, e3⟩ := run_bounds (P := P) (isS := true) (Nat.le_refl 0) hlo hhi hb
          refine ⟨_, run_slice hu hn e1, good_same hI ?_⟩
          have : l = 0 := by omega
          have : hh = 0 := by omega
          subst_vars
          simp [V]
      | some mm =>
        cases mv with
        | none => simp [VO] at hmx
        | some mmv =>
          simp only [VO] at hmx
          simp only at h
          cases hnat : natOf mm with
          | none => simp [hnat] at h
          | some c =>
            cases c with
            | succ c => simp [hnat] at h
            | zero =>
              simp only [hnat] at h; cases h
              have hle : l ≤ hh ∧ hh ≤ 0 := (run_bounds (P := P) (isS := true) (w := w) (Nat.le_refl 0) hlo hhi hb).2
              have : l = 0 := by omega
              have : hh = 0 := by omega
              subst_vars
              obtain ⟨e1, e2, e3⟩ := run_bounds3 (P := P) (isS := true) (Nat.le_refl 0) hlo hhi hmx hb hnat (h3 rfl)
              refine ⟨_, run_slice hu hn e1, good_same hI ?_⟩
              simp [V]
  case nsl =>
    simp only [V] at hx; subst hx
    cases hb : bounds 0 lo hi with
    | none => simp [hb] at h
    | some p =>
      obtain ⟨l, hh⟩ := p
      simp only [hb] at h
      cases mx with
      | none =>
        cases mv with
        | some _ => simp [VO] at hmx
        | none =>
          simp only at h; cases h
          obtain ⟨e1, e2, e3⟩ := run_bounds (P := P) (isS := true) (Nat.le_refl 0) hlo hhi hb
          refine ⟨_, run_slice hu hn e1, good_same hI ?_⟩
          have : l = 0 := by omega
          have : hh = 0 := by omega
          subst_vars
          simp [V]
      | some mm =>
        cases mv with
        | none => simp [VO] at hmx
        | some mmv =>
          simp only [VO] at hmx
          simp only at h
          cases hnat : natOf mm with
          | none => simp [hnat] at h
          | some c =>
            cases c with
            | succ c => simp [hnat] at h
            | zero =>
              simp only [hnat] at h; cases h
              have hle : l ≤ hh ∧ hh ≤ 0 := (run_bounds (P := P) (isS := true) (w := w) (Nat.le_refl 0) hlo hhi hb).2
              have : l = 0 := by omega
              have : hh = 0 := by omega
              subst_vars
              obtain ⟨e1, e2, e3⟩ := run_bounds3 (P := P) (isS := true) (Nat.le_refl 0) hlo hhi hmx hb hnat (h3 rfl)
              refine ⟨_, run_slice hu hn e1, good_same hI ?_⟩
              simp [V]
  case sl es0 xs m =>
    by_cases hes : es = es0
    · subst hes
      rw [if_pos rfl] at h
      have hx0 := hx
      simp only [V] at hx
      obtain ⟨b, o, cap, vs, rfl, h1, h2, h4, h5⟩ := hx
      cases hb : bounds xs.length lo hi with
      | none => simp [hb] at h
      | some p =>
        obtain ⟨l, hh⟩ := p
        simp only [hb] at h
        obtain ⟨e1, e2, e3⟩ := run_bounds (P := P) (isS := true) h1.2 hlo hhi hb
        cases mx with
        | some mm =>
          cases mv with
          | none => simp [VO] at hmx
          | some mmv =>
            simp only [VO] at hmx
            simp only at h
            cases hnat : natOf mm with
            | none => simp [hnat] at h
            | some c =>
              simp only [hnat] at h
              by_cases hc : c = hh
              · subst hc
                rw [if_pos rfl] at h
                cases hp : pub s (.sl es xs m) with
                | none => simp [hp] at h
                | some q =>
                  obtain ⟨q1, s1⟩ := q
                  simp only [hp] at h
                  cases h
                  obtain ⟨f1, f2, f3⟩ := run_bounds3 (P := P) (isS := true) h1.2 hlo hhi hmx hb hnat (h3 rfl)
                  refine ⟨_, run_slice hu hn f1, ?_⟩
                  obtain ⟨g1, hI1, hL1, hV1, hE1⟩ := pub_ok hI hx0 hp
                  refine ⟨g1, hI1, hL1, ?_, hE1⟩
                  -- the published whole is safe
                  have hsafe : ∃ vs', VL g1 s' w xs vs' ∧ cellsAt w b o (flat vs') ∧ safe g1 b (o + xs.length * es) := by
                    rcases pub_cases hp with ⟨es', xs', k, t', ha, ht, rfl, rfl⟩ | ⟨rfl, rfl, hne⟩
                    · cases ha
                      simp only [V] at hV1
                      obtain ⟨b', o', cap', vs', ha, _, _, _, hv'⟩ := hV1
                      simp only [Value.slice.injEq, Option.some.injEq, Addr.mk.injEq] at ha
                      obtain ⟨⟨rfl, rfl, _⟩, _, rfl⟩ := ha
                      obtain ⟨k1, k2, k3, _⟩ := hv' rfl
                      exact ⟨vs', k1, k2, k3⟩
                    · cases m with
                      | tok k u => exact absurd rfl (hne _ _ _ _)
                      | full => obtain ⟨k1, k2, k3, _⟩ := h5 rfl; exact ⟨vs, VL_mono hL1 _ _ k1, k2, safe_mono hL1 k3⟩
                      | shut => obtain ⟨k1, k2, k3, _⟩ := h5 rfl; exact ⟨vs, VL_mono hL1 _ _ k1, k2, safe_mono hL1 k3⟩
                  obtain ⟨vs', k1, k2, k3⟩ := hsafe
                  by_cases hcl : c = l
                  · subst hcl
                    rw [if_pos rfl]
                    exact part_ok (cap := cap) h1.1 h2 k1 k2 k3 e2 e3 (Nat.le_refl _) (.inl ⟨rfl, rfl⟩) ⟨rfl, .inr ⟨by omega, rfl⟩⟩
                  · rw [if_neg hcl]
                    simp only [Option.map_some, addr_add]
                    exact part_ok (cap := cap) h1.1 h2 k1 k2 k3 e2 e3 (Nat.le_refl _) (.inl ⟨rfl, rfl⟩) ⟨rfl, .inl rfl⟩
              · rw [if_neg hc] at h; cases h
        | none =>
          cases mv with
          | some _ => simp [VO] at hmx
          | none =>
            simp only at h
            have hrun := run_slice (P := P) (w := w) hu hn (b := some ⟨b, o, none⟩) e1
            -- the value that comes out lies where the part lies
            have hval : ∃ b' o', (if cap = l then (some ⟨b, o, none⟩ : Option Addr) else (some ⟨b, o, none⟩ : Option Addr).map (·.add (l * es))) = some ⟨b', o', none⟩ ∧ (b' = b ∧ (o' = o + l * es ∨ (cap - l = 0 ∧ o' = o))) := by
              by_cases hcl : cap = l
              · rw [if_pos hcl]; exact ⟨b, o, rfl, rfl, .inr ⟨by omega, rfl⟩⟩
              · rw [if_neg hcl]; exact ⟨b, _, by rw [Option.map_some, addr_add], rfl, .inl rfl⟩
            obtain ⟨b', o', hv1, hv2⟩ := hval
            rw [hv1] at hrun
            by_cases hwhole : l = 0 ∧ hh = xs.length
            · rw [if_pos hwhole] at h
              cases h
              obtain ⟨rfl, rfl⟩ := hwhole
              refine ⟨_, hrun, good_same hI ?_⟩
              have : b' = b ∧ o' = o := by
                obtain ⟨h6, h7⟩ := hv2
                rcases h7 with h7 | h7 <;> omega
              obtain ⟨rfl, rfl⟩ := this
              simpa using hx0
            · rw [if_neg hwhole] at h
              cases m with
              | shut =>
                simp only at h; cases h
                obtain ⟨k1, k2, k3, _⟩ := h5 rfl
                exact ⟨_, hrun, good_same hI (part_ok (cap := cap) h1.1 h2 k1 k2 k3 e2 e3 (by omega) (.inr rfl) hv2)⟩
              | full =>
                simp only at h
                obtain ⟨k1, k2, k3, k4⟩ := h5 rfl
                simp only [CapIs] at k4
                by_cases hf : hh = xs.length
                · rw [if_pos hf] at h; cases h
                  exact ⟨_, hrun, good_same hI (part_ok (cap := cap) h1.1 h2 k1 k2 k3 e2 e3 (by omega) (.inl ⟨rfl, by omega⟩) hv2)⟩
                · rw [if_neg hf] at h; cases h
                  exact ⟨_, hrun, good_same hI (part_ok (cap := cap) h1.1 h2 k1 k2 k3 e2 e3 (by omega) (.inr rfl) hv2)⟩
              | tok k v =>
                simp only at h
                cases ht : s.tok? k with
                | none => simp [ht] at h
                | some t' =>
                  simp only [ht] at h
                  by_cases hver : t'.ver = v
                  · rw [if_pos hver] at h
                    have hok : s.ok (.tok k v) = true := ok_iff.2 ⟨t', ht, hver⟩
                    obtain ⟨k1, k2, k3, k4⟩ := h5 hok
                    obtain ⟨rfl, hes', hcap, k5⟩ := k4
                    obtain ⟨k6, k7⟩ := k5 t' ht
                    split at h
                    · rename_i hpop
                      cases h
                      simp only [Bool.and_eq_true] at hpop
                      obtain ⟨⟨⟨_, hl0⟩, hfr⟩, hpb⟩ := hpop
                      have hl0 := Nat.eq_of_beq_eq_true hl0
                      have hfr := Nat.eq_of_beq_eq_true hfr
                      have hpb := Nat.le_of_ble_eq_true hpb
                      subst hl0
                      have htk := k7 hfr
                      have hL := Le.pop (n := hh) hI ht
                      have hI2 := Inv.pop (n := hh) hI ht (by omega) hpb
                      rw [hver] at hL hI2
                      refine ⟨_, hrun, g, hI2, hL, ?_, Esc.tok _ _ rfl rfl rfl⟩
                      have hbo : b' = b ∧ o' = 0 := by
                        obtain ⟨h6, h7⟩ := hv2
                        rcases h7 with h7 | h7 <;> omega
                      obtain ⟨rfl, rfl⟩ := hbo
                      have hlen : ((xs.drop 0).take (hh - 0)).length = hh - 0 := by simp; omega
                      simp only [V]
                      refine ⟨b', 0, cap - 0, (vs.drop 0).take (hh - 0), by rw [hlen], ⟨h1.1, by rw [hlen]; omega⟩, allLen_take _ (allLen_drop _ h2), ⟨tok?_lt (s := s) ht, fun t1 ht1 => ?_⟩, fun _ =>
                        ⟨VL_mono hL _ _ (VL_take _ (VL_drop _ k1)), ?_, ?_, rfl, hes', by rw [hlen]; omega, fun t1 ht1 => ?_⟩⟩
                      · rw [setTok_tok? hI.lenT (tok?_lt ht), if_pos rfl] at ht1; cases ht1; exact Nat.le_refl _
                      · rw [flat_take _ (VL_drop _ k1) (allLen_drop _ h2)]
                        have := cellsAt_cut (off := 0) (n := (hh - 0) * es) k2
                        simpa using this
                      · right
                        refine ⟨_, by rw [setTok_tok? hI.lenT (tok?_lt ht), if_pos rfl], by rw [htk], ?_⟩
                        rw [hlen, htk]; simp
                      · rw [setTok_tok? hI.lenT (tok?_lt ht), if_pos rfl] at ht1
                        cases ht1
                        rw [hlen]
                        exact ⟨by simp, fun _ => by simpa using htk⟩
                    · cases h
                      have hp : pub s (.sl es xs (.tok k v)) = some (.sl es xs .shut, s.setTok k { t' with pub := max t'.pub xs.length }) := by
                        simp only [pub, ht]; rw [if_pos hver]
                      obtain ⟨g1, hI1, hL1, hV1, hE1⟩ := pub_ok hI hx0 hp
                      refine ⟨_, hrun, g1, hI1, hL1, ?_, hE1⟩
                      simp only [V] at hV1
                      obtain ⟨b2, o2, cap2, vs', ha, _, _, _, hv'⟩ := hV1
                      simp only [Value.slice.injEq, Option.some.injEq, Addr.mk.injEq] at ha
                      obtain ⟨⟨rfl, rfl, _⟩, _, rfl⟩ := ha
                      obtain ⟨j1, j2, j3, _⟩ := hv' rfl
                      exact part_ok (cap := cap) h1.1 h2 j1 j2 j3 e2 e3 (by omega) (.inr rfl) hv2
                  · rw [if_neg hver] at h; cases h
    · rw [if_neg hes] at h; simp at h

theorem Good.weak {CR : Nat → Code → C → Prop} {g : G} {s s' : St} {w w' : World} {r r' : AV} {v : Value} (h : Good CR g s w s' r v w') (hw : ∀ g s w, V g s w r v → V g s w r' v) : Good CR g s w s' r' v w' := by
  obtain ⟨g', h1, h2, h3, h4⟩ := h
  exact ⟨g', h1, h2, hw _ _ _ h3, h4⟩

theorem slc_ok {t e es : Nat} {pop : Bool} (hI : Inv CR g s w) (hu : P.underlying t = some (.slice e)) (hn : sizeT P e = some es) {x r : AV} {xv : Value} {lo hi mx : Option AV} {lv hv mv : Option Value}
    (hx : V g s w x xv) (hlo : VO g s w lo lv) (hhi : VO g s w hi hv) (hmx : VO g s w mx mv) (h : sliceA s pop es x lo hi mx = some (r, s')) (h3 : mx.isSome = true → hi.isSome = true) :
    ∃ v, (Instr.sliceAt t xv lv hv mv).run P w = .ok v w ∧ Good CR g s w s' r v w := by
  by_cases hw : ∃ f e xs, x = .ws f e xs
  case neg => exact slc_ok0 hI hu hn hx hlo hhi hmx h h3 fun f e xs he => hw ⟨f, e, xs, he⟩
  obtain ⟨f, e0, xs, rfl⟩ := hw
  simp only [sliceA] at h
  by_cases hes : es = e0
  case neg => rw [if_neg hes] at h; cases h
  subst hes
  rw [if_pos rfl] at h
  cases hb : bounds xs.length lo hi with
  | none => simp [hb] at h
  | some p =>
    obtain ⟨l, hh⟩ := p
    simp only [hb] at h
    rcases V_ws.1 hx with ⟨hx2, rfl⟩ | ⟨hx2, rfl⟩ | hx2
    · -- nil
      have hle : l ≤ hh ∧ hh ≤ 0 := (run_bounds (P := P) (isS := true) (w := w) (Nat.le_refl 0) hlo hhi hb).2
      have hl0 : l = 0 := by omega
      have hh0 : hh = 0 := by omega
      subst hl0; subst hh0
      have key : sliceA s pop es .nsl lo hi mx = some (.nsl, s) ∧ ∃ f', r = .ws f' es [] ∧ s' = s := by
        have hb0 : bounds 0 lo hi = some (0, 0) := hb
        simp only [sliceA, hb0]
        cases mx with
        | none =>
          simp only [List.length_nil, and_self, if_true] at h
          cases h
          exact ⟨rfl, _, rfl, rfl⟩
        | some mm =>
          simp only at h ⊢
          cases hnat : natOf mm with
          | none => simp [hnat] at h
          | some c =>
            simp only [hnat] at h ⊢
            split at h
            · rename_i hc
              subst hc
              cases h
              exact ⟨rfl, true, by simp, rfl⟩
            · cases h
      obtain ⟨k1, f', rfl, rfl⟩ := key
      obtain ⟨v, e1, e2⟩ := slc_ok0 (P := P) hI hu hn hx2 hlo hhi hmx k1 h3 (fun _ _ _ hh => by cases hh)
      exact ⟨v, e1, e2.weak fun _ _ _ hv => V_wsnil hv⟩
    · -- no room
      have hle : l ≤ hh ∧ hh ≤ 0 := (run_bounds (P := P) (isS := true) (w := w) (Nat.le_refl 0) hlo hhi hb).2
      have hl0 : l = 0 := by omega
      have hh0 : hh = 0 := by omega
      subst hl0; subst hh0
      have key : sliceA s pop es .wz lo hi mx = some (.wz, s) ∧ ∃ f', r = .ws f' es [] ∧ s' = s := by
        have hb0 : bounds 0 lo hi = some (0, 0) := hb
        simp only [sliceA, hb0]
        cases mx with
        | none =>
          simp only [List.length_nil, and_self, if_true] at h
          cases h
          exact ⟨rfl, _, rfl, rfl⟩
        | some mm =>
          simp only at h ⊢
          cases hnat : natOf mm with
          | none => simp [hnat] at h
          | some c =>
            simp only [hnat] at h ⊢
            split at h
            · rename_i hc
              subst hc
              cases h
              exact ⟨rfl, true, by simp, rfl⟩
            · cases h
      obtain ⟨k1, f', rfl, rfl⟩ := key
      obtain ⟨v, e1, e2⟩ := slc_ok0 (P := P) hI hu hn hx2 hlo hhi hmx k1 h3 (fun _ _ _ hh => by cases hh)
      exact ⟨v, e1, e2.weak fun _ _ _ hv => V_wswz hv⟩
    · -- a slice
      have hp : pub s (.sl es xs (capM f)) = some (.sl es xs (capM f), s) := by cases f <;> rfl
      have key : ∃ m', sliceA s pop es (.sl es xs (capM f)) lo hi mx = some (.sl es ((xs.drop l).take (hh - l)) m', s) ∧ s' = s ∧ ∃ f', r = .ws f' es ((xs.drop l).take (hh - l)) ∧ (m' = capM f' ∨ (m' = .full ∧ f' = false)) := by
        simp only [sliceA, if_true, hb]
        cases mx with
        | none =>
          simp only at h ⊢
          split at h
          · rename_i hc
            obtain ⟨rfl, rfl⟩ := hc
            cases h
            refine ⟨capM f, by simp, rfl, f, by simp, .inl rfl⟩
          · rename_i hc
            cases h
            rw [if_neg hc]
            cases f with
            | true =>
              simp only [capM, if_true]
              split
              · exact ⟨.full, rfl, trivial, false, rfl, .inr ⟨rfl, rfl⟩⟩
              · exact ⟨.shut, rfl, trivial, false, rfl, .inl rfl⟩
            | false => exact ⟨.shut, rfl, rfl, false, rfl, .inl rfl⟩
        | some mm =>
          simp only at h ⊢
          cases hnat : natOf mm with
          | none => simp [hnat] at h
          | some c =>
            simp only [hnat] at h ⊢
            split at h
            · rename_i hc
              subst hc
              cases h
              rw [if_pos rfl, hp]
              exact ⟨.full, rfl, rfl, true, rfl, .inl rfl⟩
            · cases h
      obtain ⟨m', k1, rfl, f', rfl, k2⟩ := key
      obtain ⟨v, e1, e2⟩ := slc_ok0 (P := P) hI hu hn hx2 hlo hhi hmx k1 h3 (fun _ _ _ hh => by cases hh)
      exact ⟨v, e1, e2.weak fun _ _ _ hv => V_weak k2 hv⟩
end Go.Proofs.YtfaodjpibdhdjaaDoor.Am
