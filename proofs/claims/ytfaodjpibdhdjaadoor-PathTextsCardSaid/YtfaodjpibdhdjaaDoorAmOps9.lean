/-
  Maps: made, written, asked.
-/
import Derived.Test.YtfaodjpibdhdjaaDoorAmOps8
set_option linter.all false
set_option linter.unusedVariables false
set_option linter.unusedSimpArgs false
set_option linter.unusedSectionVars false
set_option linter.constructorNameAsVariable false
namespace Go.Proofs.YtfaodjpibdhdjaaDoor.Am
variable {CR : Nat → Code → C → Prop} {P : Program} {g : G} {s s' : St} {w : World}

def KeyIs (d : TypeDesc) (kk : Nat) : Prop := (kk = 0 ∧ ∃ k, d = .int k) ∨ (kk = 1 ∧ d = .string) ∨ (kk = 2 ∧ d = .bool)

theorem keyT_is {t kk et : Nat} (h : keyT P t = some (kk, et)) : ∃ kt d, P.underlying t = some (.map kt et) ∧ P.underlying kt = some d ∧ KeyIs d kk := by
  unfold keyT at h
  split at h <;> try (cases h; done)
  rename_i k e hu
  split at h <;> try (cases h; done)
  all_goals (rename_i hk; cases h; exact ⟨k, _, hu, hk, by simp [KeyIs]⟩)

theorem keyEq_ok {d : TypeDesc} {kk : Nat} {a b : AV} {av bv : Value} {r : Bool} (hd : KeyIs d kk) (ha : V g s w a av) (hb : V g s w b bv) (h : keyEq kk a b = some r) :
    Instr.sameNow d av bv = some r ∧ (r = true → av = bv ∧ Instr.sameBits 10000 bv av = true) := by
  unfold keyEq at h
  split at h <;> try (cases h; done)
  · rename_i k x k' y
    split at h <;> try (cases h; done)
    rename_i hk
    subst hk
    cases h
    simp only [V] at ha hb
    subst ha; subst hb
    rcases hd with ⟨_, j, rfl⟩ | ⟨h, _⟩ | ⟨h, _⟩ <;> try (cases h; done)
    refine ⟨by simp [Instr.sameNow], fun hr => ?_⟩
    have : x = y := by simpa using hr
    subst this
    exact ⟨rfl, by simp [Instr.sameBits]⟩
  · rename_i x y
    cases h
    simp only [V] at ha hb
    obtain ⟨rfl, hx⟩ := ha
    obtain ⟨rfl, hy⟩ := hb
    rcases hd with ⟨h, _⟩ | ⟨_, rfl⟩ | ⟨h, _⟩ <;> try (cases h; done)
    have hbb : ∀ a b : ByteArray, (a == b) = (a.data.toList == b.data.toList) := fun a b => by
      have : (a == b) = (a.data == b.data) := rfl
      rw [this, ← Array.beq_toList]
    have hbe : (bytesOf x == bytesOf y) = beqN x y := by
      rw [← beqN_ok hx hy, hbb]; simp [bytesOf]
    refine ⟨by simp only [Instr.sameNow]; rw [hbe], fun hr => ?_⟩
    have hxy : x = y := by
      clear hbe hx hy
      have : ∀ {a b : List Nat}, beqN a b = true → a = b := by
        intro a
        induction a with
        | nil => intro b h; cases b with
          | nil => rfl
          | cons b l => simp [beqN] at h
        | cons a l ih => intro b h; cases b with
          | nil => simp [beqN] at h
          | cons b m =>
            simp only [beqN, Bool.and_eq_true] at h
            rw [Nat.eq_of_beq_eq_true h.1, ih h.2]
      exact this hr
    subst hxy
    refine ⟨rfl, ?_⟩
    unfold Instr.sameBits
    rw [hbb]; simp
  · rename_i x y
    cases h
    simp only [V] at ha hb
    subst ha; subst hb
    rcases hd with ⟨h, _⟩ | ⟨h, _⟩ | ⟨_, rfl⟩ <;> try (cases h; done)
    refine ⟨by simp [Instr.sameNow], fun hr => ?_⟩
    have : x = y := by simpa using hr
    subst this
    exact ⟨rfl, by simp [Instr.sameBits]⟩

theorem findM_ok {d : TypeDesc} {kk : Nat} (hd : KeyIs d kk) {k : AV} {kv : Value} (hk : V g s w k kv) : ∀ {es : List (AV × AV)} {ents : List MapEntry} {i : Nat} {r : Option AV}, VM g s w es ents → findM kk k es = some r →
    ∃ r', Instr.findNow d kv ents i = some r' ∧ (match r, r' with | none, none => True | some v, some (_, vv) => V g s w v vv | _, _ => False)
  | [], ents, i, r, hM, h => by
    simp only [VM] at hM; subst hM
    simp only [findM] at h; cases h
    exact ⟨none, rfl, trivial⟩
  | (a, v) :: l, ents, i, r, hM, h => by
    simp only [VM] at hM
    obtain ⟨e, rest, rfl, h1, h2, h3⟩ := hM
    simp only [findM] at h
    split at h <;> try (cases h; done)
    · rename_i hq
      cases h
      obtain ⟨q1, _⟩ := keyEq_ok hd hk h1 hq
      exact ⟨some (i, e.val), by simp [Instr.findNow, q1], h2⟩
    · rename_i hq
      obtain ⟨q1, _⟩ := keyEq_ok hd hk h1 hq
      obtain ⟨r', k1, k2⟩ := findM_ok hd hk (i := i + 1) h3 h
      exact ⟨r', by simp [Instr.findNow, q1, k1], k2⟩

theorem updM_ok {d : TypeDesc} {kk : Nat} (hd : KeyIs d kk) {k v : AV} {kv vv : Value} (hk : V g s w k kv) (hv : V g s w v vv) : ∀ {es es' : List (AV × AV)} {ents : List MapEntry} {i : Nat}, VM g s w es ents → updM kk k v es = some es' →
    (Instr.findNow d kv ents i = some none ∧ ∀ c, VM g s w es' (ents ++ [{ key := kv, val := vv, born := c }])) ∨
    (∃ j old en, Instr.findNow d kv ents i = some (some (i + j, old)) ∧ ents[j]? = some en ∧ Instr.sameBits 10000 en.key kv = true ∧ VM g s w es' (ents.modify j fun e => { e with key := kv, val := vv }))
  | [], es', ents, i, hM, h => by
    simp only [VM] at hM; subst hM
    simp only [updM] at h; cases h
    exact .inl ⟨rfl, fun c => by simp only [List.nil_append, VM]; exact ⟨_, _, rfl, hk, hv, rfl⟩⟩
  | (a, x) :: l, es', ents, i, hM, h => by
    simp only [VM] at hM
    obtain ⟨e, rest, rfl, h1, h2, h3⟩ := hM
    simp only [updM] at h
    split at h <;> try (cases h; done)
    · rename_i hq
      cases h
      obtain ⟨q1, q2⟩ := keyEq_ok hd hk h1 hq
      obtain ⟨q3, q4⟩ := q2 rfl
      refine .inr ⟨0, e.val, e, by simp [Instr.findNow, q1], rfl, q4, ?_⟩
      simp only [List.modify_zero_cons, VM]
      refine ⟨_, _, rfl, ?_, hv, h3⟩
      simp only
      rw [q3]; exact h1
    · rename_i hq
      split at h <;> try (cases h; done)
      rename_i l' hl'
      cases h
      obtain ⟨q1, _⟩ := keyEq_ok hd hk h1 hq
      rcases updM_ok hd hk hv (i := i + 1) h3 hl' with ⟨k1, k2⟩ | ⟨j, old, en, k1, k2, k3, k4⟩
      · refine .inl ⟨by simp [Instr.findNow, q1, k1], fun c => ?_⟩
        simp only [List.cons_append, VM]
        exact ⟨_, _, rfl, h1, h2, k2 c⟩
      · refine .inr ⟨j + 1, old, en, ?_, by simpa using k2, k3, ?_⟩
        · simp only [Instr.findNow, q1, k1]
          rw [show i + 1 + j = i + (j + 1) by omega]
        · simp only [List.modify_succ_cons, VM]
          exact ⟨_, _, rfl, h1, h2, k4⟩

theorem run_checkKey {d : TypeDesc} {kk kt : Nat} (hd : KeyIs d kk) (hu : P.underlying kt = some d) (em : Bool) (v : Value) : (Instr.checkKey em 10000 kt v).run P w = .ok () w := by
  have h : ∀ n, (Instr.checkKey em (n + 1) kt v).run P w = .ok () w := by
    intro n
    rcases hd with ⟨_, j, rfl⟩ | ⟨_, rfl⟩ | ⟨_, rfl⟩ <;> simp [Instr.checkKey, run_underlying hu]
  exact h 9999

theorem mkm_ok (hI : Inv CR g s w) (t : Nat) : ∃ v w', (Instr.makeMap t none).run P w = .ok v w' ∧ Good CR g s w (s.new (.map [])) (.m s.nb) v w' := by
  have hL := Le.newBox hI (.map []) (.map #[] 0)
  refine ⟨_, w.alloc (.map #[] 0), by simp [Instr.makeMap, World.alloc_eq]; rfl, _, Inv.newBox hI _ _ ⟨#[], 0, heap_alloc_new w _, rfl⟩, hL, ?_, esc_new _ _⟩
  simp [V, St.new, G.newBox]

def lookRes (z : AV) (ok : Bool) : Option AV → AV
  | none => if ok then .tup [z, .b false] else z
  | some v => if ok then .tup [v, .b true] else v

def entsOf (s : St) : AV → Option (List (AV × AV))
  | .nm => some []
  | .m id => match s.box? id with
    | some (.map es) => some es
    | _ => none
  | _ => none

theorem look_ok {t kk et : Nat} {z : AV} (hI : Inv CR g s w) (ht : keyT P t = some (kk, et)) (hz : zeroT P et = some z) {m k : AV} {mv kv : Value} (hm : V g s w m mv) (hk : V g s w k kv) {es : List (AV × AV)}
    (he : entsOf s m = some es) {r : Option AV} (hr : findM kk k es = some r) (ok : Bool) :
    ∃ v, (Instr.lookup t mv kv ok).run P w = .ok v w ∧ V g s w (lookRes z ok r) v := by
  obtain ⟨kt, d, hu, hd1, hd⟩ := keyT_is ht
  obtain ⟨zv, hz1, hz2⟩ := run_zeroValue (P := P) hz
  -- the entries
  obtain ⟨ents, hget, hM⟩ : ∃ ents : Array MapEntry, ((mv = .map none ∧ ents = #[]) ∨ ∃ b clock, mv = .map (some b) ∧ w.heap[b]? = some (.map ents clock)) ∧ VM g s w es ents.toList := by
    unfold entsOf at he
    split at he <;> try (cases he; done)
    · cases he
      simp only [V] at hm; subst hm
      exact ⟨#[], .inl ⟨rfl, rfl⟩, rfl⟩
    · rename_i id
      split at he <;> try (cases he; done)
      rename_i es' hb
      cases he
      simp only [V] at hm
      obtain ⟨hid, rfl⟩ := hm
      obtain ⟨ents, clock, h1, h2⟩ := hI.box id _ hb
      exact ⟨ents, .inr ⟨_, clock, rfl, h1⟩, h2⟩
  clear he
  obtain ⟨r', k1, k2⟩ := findM_ok hd hk (i := 0) hM hr
  have hfind : (Instr.findKey kt kv ents.toList).run P w = .ok r' w := by
    simp [Instr.findKey, run_underlying hd1, k1]
  have hck : ∀ em, (Instr.checkKey em 10000 kt kv).run P w = .ok () w := fun em => run_checkKey hd hd1 em kv
  have hval : ∃ v, (do
      let (v, ok') ← (match r' with
        | some (_, v) => pure (v, true)
        | none => do pure (← zeroValue et, false) : Sem (Value × Bool))
      pure (if ok then .tuple #[v, .bool ok'] else v) : Sem Value).run P w = .ok v w ∧ V g s w (lookRes z ok r) v := by
    cases r with
    | none =>
      cases r' with
      | some x => exact k2.elim
      | none =>
        cases ok with
        | true => exact ⟨.tuple #[zv, .bool false], by simp [hz1], by simp [lookRes, V, VL, hz2]⟩
        | false => exact ⟨zv, by simp [hz1], by simpa [lookRes] using hz2 _ _ _⟩
    | some v =>
      cases r' with
      | none => exact k2.elim
      | some x =>
        obtain ⟨i, vv⟩ := x
        cases ok with
        | true => exact ⟨.tuple #[vv, .bool true], by simp, by simp only [lookRes, if_true, V, VL]; exact ⟨_, ⟨_, _, rfl, k2, _, _, rfl, rfl, rfl⟩, rfl⟩⟩
        | false => exact ⟨vv, by simp, by simpa [lookRes] using k2⟩
  obtain ⟨v, e1, e2⟩ := hval
  refine ⟨v, ?_, e2⟩
  rw [← e1]
  rcases hget with ⟨rfl, rfl⟩ | ⟨b, clock, rfl, hb⟩
  · have hfind' : (Instr.findKey kt kv []).run P w = .ok r' w := hfind
    simp only [Instr.lookup, Sem.run_bind, run_underlying hu, Result.andThen_ok, Sem.run_pure, hck, hfind']
    cases r' <;> simp [hz1]
  · have hgo : (getObj b).run P w = .ok (.map ents clock) w := by simp [getObj, Sem.run, hb]
    simp only [Instr.lookup, Sem.run_bind, run_underlying hu, Result.andThen_ok, Sem.run_pure, hgo, hck, hfind]
    cases r' <;> simp [hz1]

theorem ins_ok {t kk et : Nat} (hI : Inv CR g s w) (ht : keyT P t = some (kk, et)) {id : Nat} {k v : AV} {mv kv vv : Value} (hm : V g s w (.m id) mv) (hk : V g s w k kv) (hv : V g s w v vv) {es es' : List (AV × AV)}
    (hb : s.box? id = some (.map es)) (hu : updM kk k v es = some es') :
    ∃ w', (Instr.mapUpdate t mv kv vv).run P w = .ok () w' ∧ Good CR g s w (esc (esc (s.setBox id (.map es')) id k) id v) undef Go.undef w' := by
  obtain ⟨kt, d, hu1, hd1, hd⟩ := keyT_is ht
  simp only [V] at hm
  obtain ⟨hid, rfl⟩ := hm
  obtain ⟨ents, clock, h1, h2⟩ := hI.box id _ hb
  have hget : (getObj (g.bx id)).run P w = .ok (.map ents clock) w := by simp [getObj, Sem.run, h1]
  have hset : ∀ o, (setObj (g.bx id) o).run P w = .ok () { w with heap := w.heap.setIfInBounds (g.bx id) o } := by intro o; simp [setObj, Sem.run, h1]
  have hnd : w.heap[g.bx id]? ≠ some (.deferred (some [])) := by rw [h1]; intro hh; cases hh
  -- whatever is laid there
  have fin : ∀ (ents' : Array MapEntry) (c' : Nat), (∀ g' s' w', Le g s w g' s' w' → VM g' s' w' es' ents'.toList) →
      Good CR g s w (esc (esc (s.setBox id (.map es')) id k) id v) undef Go.undef { w with heap := w.heap.setIfInBounds (g.bx id) (.map ents' c') } := by
    intro ents' c' hM
    have e1 : ({ w with heap := w.heap.setIfInBounds (g.bx id) (.map ents' c') } : World).heap.size = w.heap.size := by simp
    have e2 : ∀ b, b ≠ g.bx id → ({ w with heap := w.heap.setIfInBounds (g.bx id) (.map ents' c') } : World).heap[b]? = w.heap[b]? := fun b hb => by
      simp only [Array.getElem?_setIfInBounds]; rw [if_neg (Ne.symm hb)]
    have hL := Le.setBox (B := .map es') hI hb rfl e1 e2 hnd
    have hI' := Inv.setBox (B := .map es') hI hb rfl e1 e2 hnd ⟨ents', c', by simp only [Array.getElem?_setIfInBounds]; rw [if_pos trivial, if_pos (hI.lt id hid).2], hM _ _ _ hL⟩
    obtain ⟨n1, q1, q2, q3⟩ := esc_eq (s.setBox id (.map es')) id k
    obtain ⟨n2, p1, p2, p3⟩ := esc_eq (esc (s.setBox id (.map es')) id k) id v
    rw [p1, q1]
    have p2' : n2 ≤ n1 := by rw [q1] at p2; exact p2
    refine ⟨g, (hI'.lo n1).lo n2, (hL.trans (Le.lo n1)).trans (Le.lo n2), by simp [undef, Go.undef, V, VL], ⟨Nat.le_trans p2' q2, fun nb hnb hlo jd B' hjd hB' x hx => ?_⟩⟩
    have hB2 : (s.setBox id (.map es')).box? jd = some B' := hB'
    rw [setBox_box? hI.lenB hid] at hB2
    by_cases hj : jd = id
    · subst hj
      rw [if_pos rfl] at hB2; cases hB2
      obtain ⟨y, hy, hxy⟩ := hx
      -- where each comes from
      have hmem : ∀ {es es' : List (AV × AV)}, updM kk k v es = some es' → ∀ y ∈ es', (y.1 = k ∨ ∃ z ∈ es, y.1 = z.1) ∧ (y.2 = v ∨ ∃ z ∈ es, y.2 = z.2) := by
        intro es
        induction es with
        | nil =>
          intro es' h y hy
          simp only [updM] at h; cases h
          simp only [List.mem_singleton] at hy
          subst hy
          exact ⟨.inl rfl, .inl rfl⟩
        | cons z l ih =>
          obtain ⟨a, x⟩ := z
          intro es' h y hy
          simp only [updM] at h
          split at h <;> try (cases h; done)
          · cases h
            rcases List.mem_cons.1 hy with rfl | hy
            · exact ⟨.inr ⟨(a, x), by simp, rfl⟩, .inl rfl⟩
            · exact ⟨.inr ⟨y, by simp [hy], rfl⟩, .inr ⟨y, by simp [hy], rfl⟩⟩
          · split at h <;> try (cases h; done)
            rename_i l' hl'
            cases h
            rcases List.mem_cons.1 hy with rfl | hy
            · exact ⟨.inr ⟨_, by simp, rfl⟩, .inr ⟨_, by simp, rfl⟩⟩
            · obtain ⟨i1, i2⟩ := ih hl' y hy
              exact ⟨i1.imp id fun ⟨z, hz, he⟩ => ⟨z, by simp [hz], he⟩, i2.imp id fun ⟨z, hz, he⟩ => ⟨z, by simp [hz], he⟩⟩
      obtain ⟨i1, i2⟩ := hmem hu y hy
      simp only at hlo
      have old : ∀ z ∈ es, ∀ a, (a = z.1 ∨ a = z.2) → ∃ B, s.box? jd = some B ∧ vals B a := fun z hz a ha => ⟨_, hb, z, hz, ha⟩
      rcases hxy with rfl | rfl
      · rcases i1 with i1 | ⟨z, hz, i1⟩
        · rw [i1]
          cases hr : k.refs with
          | false => exact .inl rfl
          | true => have := q3 hr; omega
        · exact .inr (old z hz _ (.inl i1))
      · rcases i2 with i2 | ⟨z, hz, i2⟩
        · rw [i2]
          cases hr : v.refs with
          | false => exact .inl rfl
          | true => have := p3 hr; omega
        · exact .inr (old z hz _ (.inr i2))
    · rw [if_neg hj] at hB2
      exact .inr ⟨B', hB2, hx⟩
  simp only [Instr.mapUpdate, Sem.run_bind, run_underlying hu1, Result.andThen_ok, hget, run_checkKey hd hd1]
  have hall : ∀ g' s' w', Le g s w g' s' w' → ((Instr.findNow d kv ents.toList 0 = some none ∧ ∀ c, VM g' s' w' es' (ents.toList ++ [{ key := kv, val := vv, born := c }])) ∨
      (∃ j old en, Instr.findNow d kv ents.toList 0 = some (some (0 + j, old)) ∧ ents.toList[j]? = some en ∧ Instr.sameBits 10000 en.key kv = true ∧ VM g' s' w' es' (ents.toList.modify j fun e => { e with key := kv, val := vv }))) :=
    fun g' s' w' hL => updM_ok hd (V_mono hL _ _ hk) (V_mono hL _ _ hv) (i := 0) (VM_mono hL _ _ h2) hu
  rcases hall g s w (Le.refl _ _ _) with ⟨k1, _⟩ | ⟨j, old, en, k1, k2, k3, _⟩
  · have hfind : (Instr.findKey kt kv ents.toList).run P w = .ok none w := by simp [Instr.findKey, run_underlying hd1, k1]
    simp only [hfind, Result.andThen_ok]
    refine ⟨_, hset _, fin _ _ fun g' s' w' hL => ?_⟩
    rcases hall g' s' w' hL with ⟨_, m2⟩ | ⟨j, old, en, m1, _⟩
    · simpa using m2 clock
    · rw [k1] at m1; cases m1
  · have hfind : (Instr.findKey kt kv ents.toList).run P w = .ok (some (0 + j, old)) w := by simp [Instr.findKey, run_underlying hd1, k1]
    simp only [hfind, Result.andThen_ok, Nat.zero_add]
    have hkey : (Instr.keyThatStays (((ents[j]?).map (·.key)).getD kv) kv).run P w = .ok kv w := by
      have : ents[j]? = some en := by simpa using k2
      simp only [this, Option.map_some, Option.getD_some, Instr.keyThatStays]
      rw [if_pos k3]
      rfl
    simp only [Sem.run_bind, hkey, Result.andThen_ok]
    refine ⟨_, hset _, fin _ _ fun g' s' w' hL => ?_⟩
    rcases hall g' s' w' hL with ⟨m1, _⟩ | ⟨j', old', en', m1, m2, m3, m4⟩
    · rw [k1] at m1; cases m1
    · rw [k1] at m1
      have : j' = j := by simp at m1; omega
      subst this
      simpa [Array.toList_modify] using m4
end Go.Proofs.YtfaodjpibdhdjaaDoor.Am
