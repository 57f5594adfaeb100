/-
  Each operation of the model does what the abstract machine's does: operations that make no call.
-/
import Derived.Test.YtfaodjpibdhdjaaDoorAmComp
set_option linter.all false
set_option linter.unusedVariables false
set_option linter.unusedSimpArgs false
set_option linter.unusedSectionVars false
set_option linter.constructorNameAsVariable false
namespace Go.Proofs.YtfaodjpibdhdjaaDoor.Am

/-- What stands in a box. -/
def vals : Box → AV → Prop
  | .cells _ l, a => a ∈ l
  | .map es, a => ∃ x ∈ es, a = x.1 ∨ a = x.2
  | .loop _ _ tm _ _ _, a => ∃ t, a = tm.get t
  | .row _ l _ _, a => a ∈ l
  | _, _ => False

/-- No address of a younger box, and no young row, has come into a box older than lo. -/
def Esc (s s' : St) : Prop :=
  s'.lo ≤ s.lo ∧ ∀ nb, nb ≤ s.nb → nb ≤ s'.lo → ∀ id B', id < nb → s'.box? id = some B' → ∀ a, vals B' a → a.refs = false ∨ ∃ B, s.box? id = some B ∧ vals B a

theorem Esc.refl (s : St) : Esc s s := ⟨Nat.le_refl _, fun _ _ _ _ B' _ h a ha => .inr ⟨B', h, ha⟩⟩
theorem Esc.trans {s1 s2 s3 : St} (hn : s1.nb ≤ s2.nb) (h : Esc s1 s2) (k : Esc s2 s3) : Esc s1 s3 := by
  refine ⟨Nat.le_trans k.1 h.1, fun nb h1 h2 id B' hid hB a ha => ?_⟩
  rcases k.2 nb (Nat.le_trans h1 hn) h2 id B' hid hB a ha with hr | ⟨B, hB2, ha2⟩
  · exact .inl hr
  · exact h.2 nb h1 (Nat.le_trans h2 k.1) id B hid hB2 a ha2
theorem Esc.same {s s' : St} (hlo : s'.lo = s.lo) (h : ∀ id, id < s.nb → s'.box? id = s.box? id) : Esc s s' :=
  ⟨by omega, fun nb h1 _ id B' hid hB a ha => .inr ⟨B', by rw [← h id (by omega)]; exact hB, ha⟩⟩

variable (CR : Nat → Code → C → Prop)
/-- A value and a world that may come of a state, for an answer r and a state s'. -/
def Good (g : G) (s : St) (w : World) (s' : St) (r : AV) (v : Value) (w' : World) : Prop :=
  ∃ g', Inv CR g' s' w' ∧ Le g s w g' s' w' ∧ V g' s' w' r v ∧ Esc s s'
def GoodL (g : G) (s : St) (w : World) (s' : St) (r : List AV) (v : List Value) (w' : World) : Prop :=
  ∃ g', Inv CR g' s' w' ∧ Le g s w g' s' w' ∧ VL g' s' w' r v ∧ Esc s s'
variable {CR}

section
variable {P : Program} {g : G} {s s' : St} {w : World}

theorem good_same (hI : Inv CR g s w) {r : AV} {v : Value} (hv : V g s w r v) : Good CR g s w s r v w := ⟨g, hI, Le.refl _ _ _, hv, Esc.refl _⟩

theorem Good.from {g1 : G} {s1 : St} {w1 : World} (hL : Le g s w g1 s1 w1) (hE : Esc s s1) {r : AV} {v : Value} {w' : World} (h : Good CR g1 s1 w1 s' r v w') : Good CR g s w s' r v w' :=
  let ⟨g', h1, h2, h3, h4⟩ := h; ⟨g', h1, hL.trans h2, h3, Esc.trans hL.nb hE h4⟩

/-! ### Types -/
theorem run_underlying {t : Nat} {d : TypeDesc} (h : P.underlying t = some d) : (underlying t).run P w = .ok d w := by
  simp [underlying, h]
theorem run_typeInfo {t : Nat} {i : TypeInfo} (h : P.info? t = some i) : (typeInfo t).run P w = .ok i w := by
  simp [typeInfo, h]
theorem run_sizeOf {t n : Nat} (h : sizeT P t = some n) : (sizeOf t).run P w = .ok n w := by
  unfold sizeT at h
  split at h
  · rename_i i hi; cases h; simp [sizeOf, run_typeInfo hi]
  · cases h
theorem run_isAgg {t : Nat} {b : Bool} (h : aggOf P t = some b) : (isAgg t).run P w = .ok b w := by
  unfold aggOf at h
  split at h
  · rename_i h1; cases h; simp [isAgg, run_underlying h1]
  · rename_i h1; cases h; simp [isAgg, run_underlying h1]
  · rename_i d h2 h3 h1
    cases h
    simp only [isAgg, Sem.run_bind, run_underlying h1, Result.andThen_ok]
    cases d <;> first | rfl | (exact absurd rfl (h2 _)) | (exact absurd rfl (h3 _ _))
  · cases h
theorem run_zeroValue {t : Nat} {z : AV} (h : zeroT P t = some z) : ∃ v, (∀ w, (zeroValue t).run P w = .ok v w) ∧ (∀ g s w, V g s w z v) := by
  unfold zeroT at h
  split at h
  · rename_i i hi
    split at h
    · rename_i v hv
      exact ⟨v, fun w => by simp [zeroValue, run_typeInfo hi, hv], fun g s w => cvVal_ok 20 v z h⟩
    · cases h
  · cases h

/-! ### Reading cells -/
theorem addr_add (b off n : Nat) : (⟨b, off, none⟩ : Addr).add n = ⟨b, off + n, none⟩ := by
  unfold Addr.add; split
  · rename_i h; subst h; rfl
  · rfl

theorem run_loadCellsFrom {b off : Nat} : ∀ (n i : Nat) (acc : Array Value) (cs : List Value), cs.length = n → (∀ j v, cs[j]? = some v → w.cell? ⟨b, off + i + j, none⟩ = some v) →
    (loadCellsFrom ⟨b, off, none⟩ i n acc).run P w = .ok (acc ++ cs.toArray) w
  | 0, i, acc, cs, hl, _ => by
    have : cs = [] := List.length_eq_zero_iff.1 hl
    subst this; simp [loadCellsFrom]
  | n + 1, i, acc, cs, hl, h => by
    match cs, hl with
    | v :: cs, hl =>
      have h0 := h 0 v rfl
      simp only [loadCellsFrom, addr_add, Sem.run_bind, run_load]
      rw [show off + i = off + i + 0 by rfl, h0]
      simp only [Result.andThen_ok]
      rw [run_loadCellsFrom n (i + 1) (acc.push v) cs (by simpa using hl) (fun j u hj => by
        have := h (j + 1) u (by simpa using hj)
        rw [show off + (i + 1) + j = off + i + (j + 1) by omega]; exact this)]
      simp

theorem run_loadCells {b off n : Nat} {cs : List Value} (hl : cs.length = n) (h : cellsAt w b off cs) : (loadCells ⟨b, off, none⟩ n).run P w = .ok cs.toArray w := by
  unfold loadCells
  rw [run_loadCellsFrom n 0 #[] cs hl (fun j v hj => by simpa using h j v hj)]
  simp

theorem VL_append : ∀ {l m : List AV} {vs us : List Value}, VL g s w l vs → VL g s w m us → VL g s w (l ++ m) (vs ++ us)
  | [], m, vs, us, h, k => by simp only [VL] at h; subst h; simpa using k
  | a :: l, m, vs, us, h, k => by
    simp only [VL] at h
    obtain ⟨v, r, rfl, h1, h2⟩ := h
    simp only [List.cons_append, VL]
    exact ⟨v, _, rfl, h1, VL_append h2 k⟩
theorem VL_take : ∀ {l : List AV} {vs : List Value} (n : Nat), VL g s w l vs → VL g s w (l.take n) (vs.take n)
  | _, _, 0, _ => by simp [VL]
  | [], vs, n + 1, h => by simp only [VL] at h; subst h; simp [VL]
  | a :: l, vs, n + 1, h => by
    simp only [VL] at h
    obtain ⟨v, r, rfl, h1, h2⟩ := h
    simp only [List.take_succ_cons, VL]
    exact ⟨v, _, rfl, h1, VL_take n h2⟩
theorem VL_drop : ∀ {l : List AV} {vs : List Value} (n : Nat), VL g s w l vs → VL g s w (l.drop n) (vs.drop n)
  | _, _, 0, h => by simpa using h
  | [], vs, n + 1, h => by simp only [VL] at h; subst h; simp [VL]
  | a :: l, vs, n + 1, h => by
    simp only [VL] at h
    obtain ⟨v, r, rfl, h1, h2⟩ := h
    simpa using VL_drop n h2
theorem VL_get : ∀ {l : List AV} {vs : List Value} {n : Nat} {a : AV}, VL g s w l vs → l[n]? = some a → ∃ v, vs[n]? = some v ∧ V g s w a v
  | [], vs, n, a, h, hn => by simp at hn
  | x :: l, vs, 0, a, h, hn => by
    simp only [VL] at h
    obtain ⟨v, r, rfl, h1, h2⟩ := h
    simp at hn; subst hn
    exact ⟨v, rfl, h1⟩
  | x :: l, vs, n + 1, a, h, hn => by
    simp only [VL] at h
    obtain ⟨v, r, rfl, h1, h2⟩ := h
    simpa using VL_get h2 (by simpa using hn)
theorem VL_cut {l m : List AV} {vs : List Value} {off n : Nat} (h : VL g s w l vs) (hc : cut l off n = some m) :
    VL g s w m ((vs.drop off).take n) ∧ m.length = n ∧ m = (l.drop off).take n := by
  unfold cut at hc
  simp only at hc
  split at hc
  · rename_i hlen
    cases hc
    exact ⟨VL_take n (VL_drop off h), hlen, rfl⟩
  · cases hc
theorem cellsAt_cut {b o off n : Nat} {cs : List Value} (h : cellsAt w b o cs) : cellsAt w b (o + off) ((cs.drop off).take n) := by
  intro j v hj
  rw [List.getElem?_take] at hj
  split at hj
  · rw [List.getElem?_drop] at hj
    have := h (off + j) v hj
    rw [show o + off + j = o + (off + j) by omega]; exact this
  · cases hj

theorem box_cells (hI : Inv CR g s w) {id T : Nat} {l : List AV} (hb : s.box? id = some (.cells T l)) : ∃ arr, w.heap[g.bx id]? = some (.cells arr T (0, 0)) ∧ VL g s w l arr.toList ∧ cellsAt w (g.bx id) 0 arr.toList := by
  obtain ⟨arr, h1, h2⟩ := hI.box id _ hb
  refine ⟨arr, h1, h2, fun j v hj => ?_⟩
  simp only [World.cell?, h1]
  simpa using hj

theorem cells?_ok (hI : Inv CR g s w) {id : Nat} {l : List AV} (h : s.cells? id = some l) : ∃ vs, VL g s w l vs ∧ cellsAt w (g.bx id) 0 vs := by
  unfold St.cells? at h
  split at h <;> try (cases h; done)
  · rename_i T l' hb
    cases h
    obtain ⟨arr, _, h2, h3⟩ := box_cells hI hb
    exact ⟨_, h2, h3⟩
  · rename_i T l' fz hb
    cases h
    obtain ⟨arr, fr, h1, _, vs, rest, h3, h4, _⟩ := hI.box id _ hb
    refine ⟨vs, h4, fun j v hj => ?_⟩
    simp only [World.cell?, h1]
    have : arr.toList[j]? = some v := by rw [h3, List.getElem?_append_left (List.getElem?_eq_some_iff.1 hj).1]; exact hj
    simpa using this

theorem run_loadVar {t n b off : Nat} {agg : Bool} (ha : aggOf P t = some agg) (hn : sizeT P t = some n) {l : List AV} {r : AV} {cs : List Value} (hV : VL g s w l cs) (hl : l.length = n) (hr : scal agg l = some r)
    (hc : cellsAt w b off cs) : ∃ v, (loadVar t ⟨b, off, none⟩).run P w = .ok v w ∧ V g s w r v := by
  have hlen := hV.length
  cases agg with
  | true =>
    simp only [scal] at hr
    cases hr
    refine ⟨.agg cs.toArray, ?_, by simp only [V]; exact ⟨cs, hV, rfl⟩⟩
    simp [loadVar, run_isAgg ha, run_sizeOf hn, run_loadCells (P := P) (n := n) (by omega) hc]
  | false =>
    match l, hr with
    | [a], hr =>
      simp only [scal] at hr
      cases hr
      simp only [VL] at hV
      obtain ⟨v, r', rfl, h1, rfl⟩ := hV
      refine ⟨v, ?_, h1⟩
      have h0 := hc 0 v rfl
      simp only [loadVar, Sem.run_bind, run_isAgg ha, Result.andThen_ok, Bool.false_eq_true, if_false, run_load]
      rw [show (⟨b, off, none⟩ : Addr) = ⟨b, off + 0, none⟩ by rfl, h0]

theorem ld_ok (hI : Inv CR g s w) {t n : Nat} {agg : Bool} (ha : aggOf P t = some agg) (hn : sizeT P t = some n) {a r : AV} {av : Value} (hv : V g s w a av) (h : ldA s agg n a = some r) :
    ∃ v, (Instr.loadAt t av).run P w = .ok v w ∧ V g s w r v := by
  unfold ldA at h
  split at h
  · rename_i id off
    split at h
    · rename_i l hb
      split at h
      · rename_i m hc
        simp only [V] at hv
        obtain ⟨hid, rfl⟩ := hv
        obtain ⟨vs, h2, h3⟩ := cells?_ok hI hb
        obtain ⟨c1, c2, _⟩ := VL_cut h2 hc
        obtain ⟨v, e1, e2⟩ := run_loadVar ha hn c1 c2 h (cellsAt_cut (off := off) (n := n) h3)
        refine ⟨v, ?_, e2⟩
        simpa [Instr.loadAt, Instr.sureAddr] using e1
      · cases h
    · cases h
  · rename_i l off m
    split at h
    · rename_i hok
      split at h
      · rename_i m' hc
        simp only [V] at hv
        obtain ⟨b, o, cs, rfl, _, hv⟩ := hv
        obtain ⟨h2, h3, _⟩ := hv hok
        obtain ⟨c1, c2, _⟩ := VL_cut h2 hc
        obtain ⟨v, e1, e2⟩ := run_loadVar ha hn c1 c2 h (cellsAt_cut (off := off) (n := n) h3)
        refine ⟨v, ?_, e2⟩
        simpa [Instr.loadAt, Instr.sureAddr] using e1
      · cases h
    · cases h
  · cases h

/-! ### Handing slices on -/
theorem setTok_same {s : St} {k : Nat} {t : Tok} : (s.setTok k t).lo = s.lo ∧ ∀ id, (s.setTok k t).box? id = s.box? id := ⟨rfl, fun _ => rfl⟩

theorem pub_cases {s s' : St} {a r : AV} (h : pub s a = some (r, s')) :
    (∃ es xs k t, a = .sl es xs (.tok k t.ver) ∧ s.tok? k = some t ∧ r = .sl es xs .shut ∧ s' = s.setTok k { t with pub := max t.pub xs.length }) ∨
    (r = a ∧ s' = s ∧ ∀ es xs k u, a ≠ .sl es xs (.tok k u)) := by
  cases a with
  | sl es xs m =>
    cases m with
    | tok k u =>
      simp only [pub] at h
      cases ht : s.tok? k with
      | none => simp [ht] at h
      | some t =>
        simp only [ht] at h
        by_cases hv : t.ver = u
        · rw [if_pos hv] at h
          simp only [Option.some.injEq, Prod.mk.injEq] at h
          exact .inl ⟨es, xs, k, t, by rw [hv], ht, h.1.symm, h.2.symm⟩
        · rw [if_neg hv] at h; cases h
    | full => simp only [pub, Option.some.injEq, Prod.mk.injEq] at h; exact .inr ⟨h.1.symm, h.2.symm, fun _ _ _ _ hh => by cases hh⟩
    | shut => simp only [pub, Option.some.injEq, Prod.mk.injEq] at h; exact .inr ⟨h.1.symm, h.2.symm, fun _ _ _ _ hh => by cases hh⟩
  | ep l o m =>
    cases m with
    | tok k u => simp [pub] at h
    | full => simp only [pub, Option.some.injEq, Prod.mk.injEq] at h; exact .inr ⟨h.1.symm, h.2.symm, fun _ _ _ _ hh => by cases hh⟩
    | shut => simp only [pub, Option.some.injEq, Prod.mk.injEq] at h; exact .inr ⟨h.1.symm, h.2.symm, fun _ _ _ _ hh => by cases hh⟩
  | sd l k u => simp [pub] at h
  | _ => simp only [pub, Option.some.injEq, Prod.mk.injEq] at h; exact .inr ⟨h.1.symm, h.2.symm, fun _ _ _ _ hh => by cases hh⟩

theorem pub_ok (hI : Inv CR g s w) {a r : AV} {v : Value} (hv : V g s w a v) (h : pub s a = some (r, s')) : Good CR g s w s' r v w := by
  rcases pub_cases h with ⟨es, xs, k, t, rfl, ht, rfl, rfl⟩ | ⟨rfl, rfl, _⟩
  · simp only [V] at hv
    obtain ⟨b, o, cap, vs, rfl, he, hal, hk, hv⟩ := hv
    have hok : s.ok (.tok k t.ver) = true := ok_iff.2 ⟨t, ht, rfl⟩
    obtain ⟨h1, h2, h3, h4⟩ := hv hok
    obtain ⟨h5, h6, h7, h8⟩ := h4
    obtain ⟨h9, h10⟩ := h8 t ht
    have hI' := Inv.pubd (n := xs.length) hI ht h9
    have hL := Le.pubd (n := xs.length) hI ht h9
    refine ⟨_, hI', hL, ?_, Esc.same rfl (fun _ _ => rfl)⟩
    simp only [V]
    refine ⟨b, o, cap, vs, rfl, he, hal, trivial, fun _ => ⟨VL_mono hL _ _ h1, h2, ?_, h7⟩⟩
    rcases h3 with h3 | ⟨t1, ht1, hb, hle⟩
    · exact safe_mono hL h3
    · right
      subst h5
      simp only [G.pubd]
      rw [if_pos hb.symm, h6]
      omega
  · exact good_same hI hv

theorem pubL_ok : ∀ {l r : List AV} {vs : List Value} {g : G} {s s' : St}, Inv CR g s w → VL g s w l vs → pubL s l = some (r, s') → GoodL CR g s w s' r vs w
  | [], r, vs, g, s, s', hI, hv, h => by
    simp only [pubL] at h; cases h
    exact ⟨g, hI, Le.refl _ _ _, hv, Esc.refl _⟩
  | a :: l, r, vs, g, s, s', hI, hv, h => by
    simp only [pubL] at h
    split at h
    · rename_i a' s1 h1
      split at h
      · rename_i r' s2 h2
        cases h
        simp only [VL] at hv
        obtain ⟨v, vs', rfl, hv1, hv2⟩ := hv
        obtain ⟨g1, hI1, hL1, hV1, hE1⟩ := pub_ok hI hv1 h1
        obtain ⟨g2, hI2, hL2, hV2, hE2⟩ := pubL_ok hI1 (VL_mono hL1 _ _ hv2) h2
        refine ⟨g2, hI2, hL1.trans hL2, ?_, Esc.trans hL1.nb hE1 hE2⟩
        simp only [VL]
        exact ⟨v, vs', rfl, V_mono hL2 _ _ hV1, hV2⟩
      · cases h
    · cases h
end
end Go.Proofs.YtfaodjpibdhdjaaDoor.Am
