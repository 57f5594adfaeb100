/-
  Operations that write memory, or make it.
-/
import Derived.Test.YtfaodjpibdhdjaaDoorAmOps
set_option linter.all false
set_option linter.unusedVariables false
set_option linter.unusedSimpArgs false
set_option linter.unusedSectionVars false
set_option linter.constructorNameAsVariable false
namespace Go.Proofs.YtfaodjpibdhdjaaDoor.Am
variable {CR : Nat → Code → C → Prop} {P : Program} {g : G} {s s' : St} {w : World}

/-! ### Writing cells over cells -/
theorem over_get {l m vs : List AV} {off : Nat} (h : over l off vs = some m) : off + vs.length ≤ l.length ∧ m = l.take off ++ (vs ++ l.drop (off + vs.length)) := by
  unfold over at h
  split at h
  · rename_i h1; cases h; exact ⟨h1, rfl⟩
  · cases h

theorem VL_over {l m vs : List AV} {cs us : List Value} {off : Nat} (hl : VL g s w l cs) (hv : VL g s w vs us) (h : over l off vs = some m) :
    VL g s w m (cs.take off ++ (us ++ cs.drop (off + us.length))) := by
  obtain ⟨_, rfl⟩ := over_get h
  rw [hv.length]
  exact VL_append (VL_take off hl) (VL_append hv (VL_drop _ hl))

theorem over_list {cs us ds : List Value} {off : Nat} (hle : off + us.length ≤ cs.length) (hlen : ds.length = cs.length)
    (h : ∀ j, ds[j]? = if off ≤ j ∧ j < off + us.length then us[j - off]? else cs[j]?) : ds = cs.take off ++ (us ++ cs.drop (off + us.length)) := by
  apply List.ext_getElem?
  intro j
  rw [h j]
  have h1 : (cs.take off).length = off := by simp; omega
  by_cases ha : j < off
  · rw [if_neg (by omega), List.getElem?_append_left (by omega), List.getElem?_take, if_pos ha]
  · rw [List.getElem?_append_right (by omega), h1]
    by_cases hb : j < off + us.length
    · rw [if_pos (by omega), List.getElem?_append_left (by omega)]
    · rw [if_neg (by omega), List.getElem?_append_right (by omega), List.getElem?_drop]
      congr 1; omega

theorem fold_get : ∀ (vs : List Value) (k off : Nat) (cells : Array Value), off + k + vs.length ≤ cells.size →
    ((vs.zipIdx k).foldl (fun cs x => cs.setIfInBounds (off + x.2) x.1) cells).size = cells.size ∧
    ∀ j : Nat, ((vs.zipIdx k).foldl (fun cs x => cs.setIfInBounds (off + x.2) x.1) cells)[j]? = if off + k ≤ j ∧ j < off + k + vs.length then vs[j - (off + k)]? else cells[j]?
  | [], k, off, cells, _ => by simp; intros; omega
  | v :: vs, k, off, cells, h => by
    simp only [List.length_cons] at h
    obtain ⟨h1, h2⟩ := fold_get vs (k + 1) off (cells.setIfInBounds (off + k) v) (by simp; omega)
    simp only [List.zipIdx_cons, List.foldl_cons]
    refine ⟨by rw [h1]; simp, fun j => ?_⟩
    rw [h2 j]
    by_cases ha : j = off + k
    · subst ha
      rw [if_neg (by omega), if_pos (by simp), Array.getElem?_setIfInBounds]
      rw [if_pos rfl, if_pos (by omega)]; simp
    · by_cases hb : off + (k + 1) ≤ j ∧ j < off + (k + 1) + vs.length
      · rw [if_pos hb, if_pos (by simp only [List.length_cons]; omega)]
        rw [show j - (off + k) = (j - (off + (k + 1))) + 1 by omega]; rfl
      · rw [if_neg hb, if_neg (by simp only [List.length_cons]; omega), Array.getElem?_setIfInBounds, if_neg (by omega)]

theorem fold_over (v : Value) (cells : Array Value) (off : Nat) (h : off + v.cells.size ≤ cells.size) :
    (v.cells.zipIdx.foldl (fun cs x => cs.setIfInBounds (off + x.2) x.1) cells).toList = cells.toList.take off ++ (v.cells.toList ++ cells.toList.drop (off + v.cells.toList.length)) := by
  have e : v.cells.zipIdx.foldl (fun cs x => cs.setIfInBounds (off + x.2) x.1) cells = (v.cells.toList.zipIdx 0).foldl (fun cs x => cs.setIfInBounds (off + x.2) x.1) cells := by
    rw [← Array.foldl_toList, Array.toList_zipIdx]
  rw [e]
  obtain ⟨h1, h2⟩ := fold_get v.cells.toList 0 off cells (by simpa using h)
  refine over_list (by simpa using h) (by simpa using h1) (fun j => ?_)
  have := h2 j
  simpa using this

/-- 'fill' with the parts of a literal. -/
theorem fill_ok {gt : Nat → Option (List AV)} {e : Tr} {a : Act} {pl : List (Nat × Nat)} {place : Nat → Option (Nat × Nat)} (hp : ∀ i x, pl[i]? = some x → place i = some x) :
    ∀ {parts : List (Nat × Operand)} {ps : List (Nat × Nat × X)} {l m : List AV} {cells : Array Value} {g : G} {s s' : St}, Inv CR g s w → GT gt g w → VT g s w e a.tmps →
      cvParts gt pl parts = some ps → VL g s w l cells.toList → evParts e s ps l = some (m, s') →
      ∃ cells', Instr.fill place cells (parts.map fun x => (x.1, a.eval x.2)) = some cells' ∧ GoodL CR g s w s' m cells'.toList w
  | [], ps, l, m, cells, g, s, s', hI, hG, hT, hc, hl, h => by
    simp only [cvParts] at hc; cases hc
    simp only [evParts] at h; cases h
    exact ⟨cells, rfl, g, hI, Le.refl _ _ _, hl, Esc.refl _⟩
  | (i, x) :: parts, ps, l, m, cells, g, s, s', hI, hG, hT, hc, hl, h => by
    simp only [cvParts] at hc
    split at hc
    · rename_i o n y r h1 h2 h3
      cases hc
      simp only [evParts] at h
      split at h
      · cases h
      · rename_i b s1 hb
        split at h
        · rename_i hlen
          split at h
          · rename_i l' ho
            have hv := cvX_ok hG hT h2
            obtain ⟨g1, hI1, hL1, hV1, hE1⟩ := pub_ok hI hv hb
            have hsz := V_size hV1
            have hover := over_get ho
            have hlc := hl.length
            have hcs := V_cells hV1
            have hsize : o + (a.eval x).cells.size ≤ cells.size := by
              have := hover.1
              rw [hsz]; simp at hlc; omega
            have hl1 : VL g1 s1 w l' ((a.eval x).cells.zipIdx.foldl (fun cs x => cs.setIfInBounds (o + x.2) x.1) cells).toList := by
              rw [fold_over _ _ _ hsize]
              exact VL_over (VL_mono hL1 _ _ hl) hcs ho
            obtain ⟨cells', e1, g2, hI2, hL2, hV2, hE2⟩ := fill_ok hp (parts := parts) hI1 (hG.mono hL1) (VT_mono hL1 hT) h3 hl1 h
            refine ⟨cells', ?_, g2, hI2, hL1.trans hL2, hV2, Esc.trans hL1.nb hE1 hE2⟩
            simp only [List.map_cons, Instr.fill, hp _ _ h1]
            rw [if_neg (by simp only [Bool.or_eq_true, bne_iff_ne, ne_eq, decide_eq_true_eq]; rw [hsz]; omega)]
            exact e1
          · cases h
        · cases h
    · cases hc

/-! ### Stores -/
theorem one_of_V {a : AV} {v : Value} (ha : ones [a] = true) (hv : V g s w a v) : v.oneCell' = true := by
  cases a <;> simp only [V] at hv
  case agg => simp [ones] at ha
  case tup => simp [ones] at ha
  case b => subst hv; rfl
  case i => subst hv; rfl
  case s => obtain ⟨rfl, _⟩ := hv; rfl
  case np => subst hv; rfl
  case p => obtain ⟨_, rfl⟩ := hv; rfl
  case ep => obtain ⟨b, o, cs, rfl, h⟩ := hv; rfl
  case nsl => subst hv; rfl
  case sl => obtain ⟨b, o, cs, vs, rfl, h⟩ := hv; rfl
  case ws =>
    rcases hv with ⟨rfl, _⟩ | ⟨⟨_, rfl⟩, _⟩ | ⟨b, o, cs, vs, rfl, h⟩ <;> rfl
  case wz => obtain ⟨a, rfl⟩ := hv; rfl
  case bl => obtain ⟨o, cap, rfl, h⟩ := hv; rfl
  case ige => obtain ⟨z, rfl, h⟩ := hv; rfl
  case sd => obtain ⟨b, o, cs, vs, rfl, h⟩ := hv; rfl
  case nm => subst hv; rfl
  case m => obtain ⟨_, rfl⟩ := hv; rfl
  case nf => subst hv; rfl
  case fn => obtain ⟨vs, h, rfl⟩ := hv; rfl
  case yld => obtain ⟨_, rfl⟩ := hv; rfl
  case ni => subst hv; rfl
  case ifc => obtain ⟨vs, h, rfl⟩ := hv; rfl
  case mth => obtain ⟨vs, h, rfl⟩ := hv; rfl
  case any => obtain ⟨k, n, rfl⟩ := hv; rfl

theorem ones_cons {a : AV} {l : List AV} (h : ones (a :: l) = true) : ones [a] = true ∧ ones l = true := by
  cases a <;> simp_all [ones]

theorem ones_of_VL : ∀ {l : List AV} {vs : List Value}, ones l = true → VL g s w l vs → ∀ v ∈ vs, v.oneCell' = true
  | [], vs, _, h => by simp only [VL] at h; subst h; simp
  | a :: l, vs, ho, h => by
    simp only [VL] at h
    obtain ⟨v, r, rfl, h1, h2⟩ := h
    obtain ⟨h3, h4⟩ := ones_cons ho
    intro u hu
    rcases List.mem_cons.1 hu with rfl | hu
    · exact one_of_V h3 h1
    · exact ones_of_VL h4 h2 u hu

theorem heap_setCell_same {b o : Nat} {v : Value} {arr : Array Value} {T : Nat} {fr : Nat × Nat} (h : w.heap[b]? = some (.cells arr T fr)) :
    (w.setCell ⟨b, o, none⟩ v).heap[b]? = some (.cells (arr.setIfInBounds o v) T fr) := by
  simp [World.setCell, Array.getElem?_modify, h]
theorem heap_setCell_other {b o c : Nat} {v : Value} (h : c ≠ b) : (w.setCell ⟨b, o, none⟩ v).heap[c]? = w.heap[c]? := by
  simp [World.setCell, Array.getElem?_modify]
  intro hh; exact absurd hh.symm h

theorem run_storeCells {b off : Nat} {T : Nat} {fr : Nat × Nat} : ∀ (vs : List Value) (i : Nat) (w : World) (arr : Array Value), (∀ v ∈ vs, v.oneCell' = true) → w.heap[b]? = some (.cells arr T fr) →
    off + i + vs.length ≤ arr.size → (∀ x, off + i ≤ x → x < off + i + vs.length → ¬ (fr.1 ≤ x ∧ x < fr.2)) →
    ∃ w' arr', (storeCells ⟨b, off, none⟩ vs i).run P w = .ok () w' ∧ (w'.heap.size = w.heap.size ∧ w'.os = w.os ∧ w'.output = w.output) ∧ (∀ c, c ≠ b → w'.heap[c]? = w.heap[c]?) ∧ w'.heap[b]? = some (.cells arr' T fr) ∧ arr'.size = arr.size ∧
      ∀ j : Nat, arr'[j]? = if off + i ≤ j ∧ j < off + i + vs.length then vs[j - (off + i)]? else arr[j]?
  | [], i, w, arr, _, hh, _, _ => ⟨w, arr, rfl, ⟨rfl, rfl, rfl⟩, fun _ _ => rfl, hh, rfl, fun j => by rw [if_neg (by simp)]⟩
  | v :: vs, i, w, arr, ho, hh, hle, hfr => by
    simp only [List.length_cons] at hle hfr
    have hcell : ∃ u, w.cell? ⟨b, off + i, none⟩ = some u := by
      simp only [World.cell?, hh]
      exact ⟨arr[off + i]'(by omega), by simp⟩
    obtain ⟨u, hu⟩ := hcell
    have hf : w.frozen? ⟨b, off + i, none⟩ = false := by
      simp only [World.frozen?, hh]
      have := hfr (off + i) (by omega) (by omega)
      simp only [Bool.and_eq_false_iff, decide_eq_false_iff_not]
      omega
    obtain ⟨w', arr', e1, e2, e3, e4, e5, e6⟩ := run_storeCells (off := off) vs (i + 1) (w.setCell ⟨b, off + i, none⟩ v) (arr.setIfInBounds (off + i) v) (fun x hx => ho x (List.mem_cons_of_mem _ hx)) (heap_setCell_same hh)
      (by rw [Array.size_setIfInBounds]; omega) (fun x h1 h2 => hfr x (by omega) (by omega))
    refine ⟨w', arr', ?_, ⟨by rw [e2.1]; simp, e2.2.1, e2.2.2⟩, fun c hc => by rw [e3 c hc, heap_setCell_other hc], e4, by rw [e5]; simp, fun j => ?_⟩
    · simp only [storeCells, addr_add, Sem.run_bind, run_store P _ _ _ _ (ho v (by simp)), hu, hf]
      exact e1
    · rw [e6 j]
      by_cases ha : j = off + i
      · subst ha
        rw [if_neg (by omega), if_pos (by simp), Array.getElem?_setIfInBounds, if_pos rfl, if_pos (by omega)]; simp
      · by_cases hb : off + (i + 1) ≤ j ∧ j < off + (i + 1) + vs.length
        · rw [if_pos hb, if_pos (by simp only [List.length_cons]; omega)]
          rw [show j - (off + i) = (j - (off + (i + 1))) + 1 by omega]; rfl
        · rw [if_neg hb, if_neg (by simp only [List.length_cons]; omega), Array.getElem?_setIfInBounds, if_neg (by omega)]

theorem esc_box? {id j : Nat} {v : AV} : (esc s id v).box? j = s.box? j := by unfold esc; split <;> rfl
theorem esc_eq (s : St) (id : Nat) (v : AV) : ∃ n, esc s id v = { s with lo := n } ∧ n ≤ s.lo ∧ (v.refs = true → n ≤ id) := by
  unfold esc
  split
  · exact ⟨_, rfl, by omega, fun _ => by omega⟩
  · rename_i h; exact ⟨s.lo, rfl, Nat.le_refl _, fun hh => absurd hh h⟩

theorem refs_mem : ∀ {l : List AV} {a : AV}, a ∈ l → AV.refs.go l = false → a.refs = false
  | b :: l, a, h, hr => by
    simp only [AV.refs.go, Bool.or_eq_false_iff] at hr
    rcases List.mem_cons.1 h with rfl | h
    · exact hr.1
    · exact refs_mem h hr.2

theorem refs_cells {a b : AV} (h : b ∈ a.cells) (hr : a.refs = false) : b.refs = false := by
  cases a <;> simp only [AV.cells, List.mem_singleton] at h
  case agg l => exact refs_mem h (by simpa [AV.refs] using hr)
  all_goals (subst h; exact hr)

theorem overR_get {l m vs : List AV} {off rm : Nat} (h : overR l off vs rm = some m) : off + vs.length ≤ max l.length rm ∧ off ≤ l.length ∧ m = l.take off ++ (vs ++ l.drop (off + vs.length)) := by
  unfold overR at h
  split at h <;> try (cases h; done)
  rename_i hc
  cases h
  exact ⟨hc.2, hc.1, rfl⟩
theorem VL_overR {l m vs : List AV} {off rm : Nat} {us xs : List Value} (hl : VL g s w l us) (hv : VL g s w vs xs) (h : overR l off vs rm = some m) : VL g s w m (us.take off ++ (xs ++ us.drop (off + xs.length))) := by
  obtain ⟨_, _, rfl⟩ := overR_get h
  rw [hv.length]
  exact VL_append (VL_take off hl) (VL_append hv (VL_drop _ hl))

theorem st_cells (hI : Inv CR g s w) {n : Nat} {a v : AV} {av vv : Value} (ha : V g s w a av) (hv : V g s w v vv) (h : stA s n a v = some s') :
    ∃ w', (∃ ad, av = .pointer (some ad) ∧ vv.cells.size = n ∧ (storeCells ad vv.cells.toList).run P w = .ok () w') ∧ Good CR g s w s' undef Go.undef w' := by
  unfold stA at h
  split at h
  · rename_i id off
    split at h
    · rename_i T l hb
      split at h
      · rename_i hlen
        split at h
        · rename_i m ho
          cases h
          simp only [V] at ha
          obtain ⟨hid, rfl⟩ := ha
          obtain ⟨arr, h1, h2, _⟩ := box_cells hI hb
          have hover := over_get ho
          have hsz := V_size hv
          have hlc := h2.length
          have hcs := V_cells hv
          have hone := ones_of_VL hlen.2 hcs
          obtain ⟨w', arr', e1, e2, e3, e4, e5, e6⟩ := run_storeCells (P := P) (b := g.bx id) (off := off) vv.cells.toList 0 w arr hone h1 (by simp at hlc ⊢; have := hover.1; omega) (fun x _ _ => by simp only; omega)
          have hnd : w.heap[g.bx id]? ≠ some (.deferred (some [])) := by rw [h1]; intro hh; cases hh
          have hL := Le.setBox (B := .cells T m) (w' := w') hI hb rfl e2.1 e3 hnd e2.2
          have hlist : arr'.toList = arr.toList.take off ++ (vv.cells.toList ++ arr.toList.drop (off + vv.cells.toList.length)) := by
            refine over_list (by simp at hlc ⊢; have := hover.1; omega) (by simpa using e5) (fun j => ?_)
            have := e6 j
            simpa using this
          have hVL : VL g (s.setBox id (.cells T m)) w' m arr'.toList := by
            rw [hlist]
            exact VL_over (VL_mono hL _ _ h2) (VL_mono hL _ _ hcs) ho
          have hI' := Inv.setBox (B := .cells T m) (w' := w') hI hb rfl e2.1 e3 hnd ⟨arr', e4, hVL⟩ e2.2
          obtain ⟨k, hk1, hk2, hk3⟩ := esc_eq (s.setBox id (.cells T m)) id v
          refine ⟨w', ?_, ?_⟩
          · exact ⟨_, rfl, by rw [hsz]; omega, e1⟩
          · rw [hk1]
            refine ⟨g, hI'.lo k, hL.trans (Le.lo k), by simp [undef, Go.undef, V, VL], ⟨hk2, fun nb hnb hlo jd B' hjd hB' x hx => ?_⟩⟩
            have hB2 : (s.setBox id (.cells T m)).box? jd = some B' := hB'
            rw [setBox_box? hI.lenB hid] at hB2
            by_cases hj : jd = id
            · subst hj
              rw [if_pos rfl] at hB2; cases hB2
              simp only [vals] at hx
              rw [hover.2] at hx
              simp only [List.mem_append] at hx
              have hold : ∀ y, y ∈ l → ∃ B, s.box? jd = some B ∧ vals B y := fun y hy => ⟨_, hb, hy⟩
              rcases hx with hx | hx | hx
              · exact .inr (hold x (List.mem_of_mem_take hx))
              · cases hr : v.refs with
                | false => exact .inl (refs_cells hx hr)
                | true =>
                  have := hk3 hr
                  simp only at hlo; omega
              · exact .inr (hold x (List.mem_of_mem_drop hx))
            · rw [if_neg hj] at hB2
              exact .inr ⟨B', hB2, hx⟩
        · cases h
      · cases h
    · rename_i T l rm hb
      split at h
      · rename_i hlen
        split at h
        · rename_i m ho
          cases h
          simp only [V] at ha
          obtain ⟨hid, rfl⟩ := ha
          obtain ⟨arr, fr, h1, hfr, vs, rest, hvr, h2, hrm⟩ := hI.box id _ hb
          have hasz : arr.size = vs.length + rest.length := by rw [← Array.length_toList, hvr, List.length_append]
          have hover := overR_get ho
          have hsz := V_size hv
          have hlc := h2.length
          have hcs := V_cells hv
          have hone := ones_of_VL hlen.2 hcs
          obtain ⟨w', arr', e1, e2, e3, e4, e5, e6⟩ := run_storeCells (P := P) (b := g.bx id) (off := off) vv.cells.toList 0 w arr hone h1 (by simp at hlc ⊢; have := hover.1; omega) (fun x _ _ => by have := hfr rfl; omega)
          have hnd : w.heap[g.bx id]? ≠ some (.deferred (some [])) := by rw [h1]; intro hh; cases hh
          have hL := Le.setBox (B := .row T m false rm) (w' := w') hI hb rfl e2.1 e3 hnd e2.2
          have hlist : arr'.toList = arr.toList.take off ++ (vv.cells.toList ++ arr.toList.drop (off + vv.cells.toList.length)) := by
            refine over_list (by simp at hlc ⊢; have := hover.1; omega) (by simpa using e5) (fun j => ?_)
            have := e6 j
            simpa using this
          have hVL : VL g (s.setBox id (.row T m false rm)) w' m (vs.take off ++ (vv.cells.toList ++ vs.drop (off + vv.cells.toList.length))) :=
            VL_overR (VL_mono hL _ _ h2) (VL_mono hL _ _ hcs) ho
          have hlist2 : arr'.toList = (vs.take off ++ (vv.cells.toList ++ vs.drop (off + vv.cells.toList.length))) ++ rest.drop (off + vv.cells.toList.length - vs.length) := by
            have b1 := hover.1
            rw [hlist, hvr, List.take_append_of_le_length (by omega), List.drop_append]
            simp
          have hI' := Inv.setBox (B := .row T m false rm) (w' := w') hI hb rfl e2.1 e3 hnd ⟨arr', fr, e4, hfr, _, _, hlist2, hVL, by rw [e5]; exact hrm⟩ e2.2
          obtain ⟨k, hk1, hk2, hk3⟩ := esc_eq (s.setBox id (.row T m false rm)) id v
          refine ⟨w', ?_, ?_⟩
          · exact ⟨_, rfl, by rw [hsz]; omega, e1⟩
          · rw [hk1]
            refine ⟨g, hI'.lo k, hL.trans (Le.lo k), by simp [undef, Go.undef, V, VL], ⟨hk2, fun nb hnb hlo jd B' hjd hB' x hx => ?_⟩⟩
            have hB2 : (s.setBox id (.row T m false rm)).box? jd = some B' := hB'
            rw [setBox_box? hI.lenB hid] at hB2
            by_cases hj : jd = id
            · subst hj
              rw [if_pos rfl] at hB2; cases hB2
              simp only [vals] at hx
              rw [hover.2.2] at hx
              simp only [List.mem_append] at hx
              have hold : ∀ y, y ∈ l → ∃ B, s.box? jd = some B ∧ vals B y := fun y hy => ⟨_, hb, hy⟩
              rcases hx with hx | hx | hx
              · exact .inr (hold x (List.mem_of_mem_take hx))
              · cases hr : v.refs with
                | false => exact .inl (refs_cells hx hr)
                | true =>
                  have := hk3 hr
                  simp only at hlo; omega
              · exact .inr (hold x (List.mem_of_mem_drop hx))
            · rw [if_neg hj] at hB2
              exact .inr ⟨B', hB2, hx⟩
        · cases h
      · cases h
    · cases h
  · cases h

theorem st_ok (hI : Inv CR g s w) {t n : Nat} (hn : sizeT P t = some n) {a v : AV} {av vv : Value} (ha : V g s w a av) (hv : V g s w v vv) (h : stA s n a v = some s') :
    ∃ w', (Instr.storeAt t av vv).run P w = .ok () w' ∧ Good CR g s w s' undef Go.undef w' := by
  obtain ⟨w', ⟨ad, rfl, hsz, e1⟩, hg⟩ := st_cells (P := P) hI ha hv h
  refine ⟨w', ?_, hg⟩
  simp only [Instr.storeAt, Instr.sureAddr, Sem.run_bind, Sem.run_pure, Result.andThen_ok, storeVar, run_sizeOf hn]
  rw [if_neg (by rw [hsz]; omega)]
  exact e1

/-! ### New boxes -/
theorem esc_new (s : St) (B : Box) : Esc s (s.new B) := by
  refine ⟨Nat.le_refl _, fun nb h1 _ id B' hid hB a ha => .inr ?_⟩
  rw [new_box?, if_neg (by omega)] at hB
  exact ⟨B', hB, ha⟩

theorem newCells_ok (hI : Inv CR g s w) {l : List AV} {arr : Array Value} (T : Nat) (hl : VL g s w l arr.toList) :
    Good CR g s w (s.new (.cells T l)) (.p s.nb 0) (.pointer (some ⟨w.heap.size, 0, none⟩)) (w.alloc (.cells arr T)) := by
  have hL := Le.newBox hI (.cells T l) (.cells arr T)
  refine ⟨_, Inv.newBox hI (.cells T l) (.cells arr T) ⟨arr, heap_alloc_new w _, VL_mono hL _ _ hl⟩, hL, ?_, esc_new s _⟩
  simp [V, St.new, G.newBox]

theorem run_newVar (T : Nat) (v : Value) : (newVar T v).run P w = .ok ⟨w.heap.size, 0, none⟩ (w.alloc (.cells v.cells T)) := by
  simp [newVar, newRow, World.alloc_eq]

theorem box_ok (hI : Inv CR g s w) {a : AV} {v : Value} (T : Nat) (hv : V g s w a v) :
    ∃ v' w', (Instr.box T v).run P w = .ok v' w' ∧ Good CR g s w (s.new (.cells T a.cells)) (.p s.nb 0) v' w' :=
  ⟨_, _, by simp [Instr.box, run_newVar], newCells_ok hI T (V_cells hv)⟩

theorem alloc_ok (hI : Inv CR g s w) {T : Nat} {z : AV} (hz : zeroT P T = some z) :
    ∃ v' w', (Instr.alloc T true (.tuple #[])).run P w = .ok v' w' ∧ Good CR g s w (s.new (.cells T z.cells)) (.p s.nb 0) v' w' := by
  obtain ⟨v, h1, h2⟩ := run_zeroValue hz
  exact ⟨_, _, by simp [Instr.alloc, h1, run_newVar], newCells_ok hI T (V_cells (h2 g s w))⟩

theorem VL_app : ∀ {a b : List AV} {x y : List Value}, VL g s w a x → VL g s w b y → VL g s w (a ++ b) (x ++ y)
  | [], _, _, _, h1, h2 => by simp only [VL] at h1; subst h1; exact h2
  | _ :: _, _, _, _, h1, h2 => by
    simp only [VL] at h1
    obtain ⟨v, r, rfl, h3, h4⟩ := h1
    exact ⟨v, _, rfl, h3, VL_app h4 h2⟩

theorem VL_rep {z : List AV} {zs : List Value} (hz : VL g s w z zs) {n : Nat} (hn : zs.length = n) (hp : 1 ≤ n) : ∀ c : Nat, VL g s w (repL c z) ((List.range (c * n)).map fun i => zs[i % n]!)
  | 0 => by simp [repL, VL]
  | c + 1 => by
    have e : (List.range ((c + 1) * n)).map (fun i => zs[i % n]!) = zs ++ (List.range (c * n)).map fun i => zs[i % n]! := by
      rw [show (c + 1) * n = n + c * n by rw [Nat.add_mul]; omega, List.range_add, List.map_append, List.map_map]
      congr 1
      · apply List.ext_getElem?
        intro i
        by_cases hi : i < n
        · rw [List.getElem?_map, List.getElem?_range hi]
          simp [Nat.mod_eq_of_lt hi, List.getElem?_eq_getElem (show i < zs.length by omega), getElem!_pos zs i (by omega)]
        · rw [List.getElem?_eq_none (by simp; omega), List.getElem?_eq_none (by omega)]
      · refine List.map_congr_left fun i _ => ?_
        simp
    rw [e]
    exact VL_app hz (VL_rep hz hn hp c)

theorem mks_ok (hI : Inv CR g s w) {t e : Nat} {i : TypeInfo} {z : AV} {k1 k2 : IntKind} {n c : Int} {xv yv : Value} (hu : P.underlying t = some (.slice e)) (hi : P.info? e = some i) (hz : zeroT P e = some z)
    (hc : 1 ≤ i.size ∧ z.cells.length = i.size ∧ i.bytes ≤ 1024) (hx : V g s w (.i k1 n) xv) (hy : V g s w (.i k2 c) yv) (h : 0 ≤ n ∧ n ≤ c ∧ c * i.size < 2 ^ 38 ∧ c < 2 ^ 38) :
    ∃ v w', (Instr.makeSlice t xv yv).run P w = .ok v w' ∧ Good CR g s w (s.new (.cells e (repL c.toNat z.cells))) (.bl s.nb i.size 0 n.toNat (c.toNat * i.size, true)) v w' := by
  simp only [V] at hx hy
  subst hx; subst hy
  obtain ⟨h0, h1, h2, h3⟩ := h
  obtain ⟨zv, q1, q2⟩ := run_zeroValue hz
  have hw : ∀ m : Int, 0 ≤ m → m < 2 ^ 38 → IntKind.i64.wrap m = m := by
    intro m a b
    have e1 : m % 2 ^ 64 = m := by omega
    simp only [IntKind.wrap, IntKind.signed, IntKind.bits, e1]
    rw [if_neg]
    simp; omega
  have hzs : zv.cells.toList.length = i.size := by
    have := (V_cells (q2 g s w)).length
    omega
  have hbytes : ∀ m : Int, 0 ≤ m → m < 2 ^ 38 → ¬ ((i.bytes : Int) * m > 2 ^ 48) := by
    intro m a b
    have : (i.bytes : Int) * m ≤ 1024 * 2 ^ 38 := Int.mul_le_mul (by omega) (by omega) a (by omega)
    omega
  refine ⟨.slice (some ⟨w.heap.size, 0, none⟩) n.toNat c.toNat, w.alloc (.cells ((Array.range (c.toNat * i.size)).map fun j => (zv.cells)[j % zv.cells.size]!) e), ?_, ?_⟩
  · have hsz : zv.cells.size = i.size := by simpa using hzs
    have b1 := hbytes c (by omega) h3
    have b2 := hbytes n (by omega) (by omega)
    have e1 : (decide (c < 0) || decide ((i.bytes : Int) * c > 2 ^ 48)) = false := by simp; omega
    have hs : (sizeOf e).run P w = .ok i.size w := run_sizeOf (show sizeT P e = some i.size by simp [sizeT, hi])
    have ra : ∀ (k : IntKind) (m : Int), (asInt (.int k m)).run P w = .ok m w := fun _ _ => rfl
    simp only [Instr.makeSlice, Sem.run_bind, run_underlying hu, Result.andThen_ok, ra, Sem.run_pure, run_typeInfo hi, hw c (by omega) h3, hw n h0 (by omega), run_askRoom, run_sizeOf (show sizeT P e = some i.size by simp [sizeT, hi])]
    rw [if_neg (by simp only [e1]; simp; omega)]
    by_cases hc0 : c.toNat * i.size = 0
    · simp [hs, hc0, run_askRoom, newRow, World.alloc_eq]
      have : Array.range 0 = #[] := rfl
      rw [this]; simp
    · simp [hs, hc0, run_askRoom, q1, newRow, World.alloc_eq]
  · have hV : VL g s w (repL c.toNat z.cells) ((Array.range (c.toNat * i.size)).map fun j => (zv.cells)[j % zv.cells.size]!).toList := by
      have := VL_rep (V_cells (q2 g s w)) hzs hc.1 c.toNat
      have e2 : ((Array.range (c.toNat * i.size)).map fun j => (zv.cells)[j % zv.cells.size]!).toList = (List.range (c.toNat * i.size)).map fun j => zv.cells.toList[j % i.size]! := by
        simp only [Array.toList_map, Array.toList_range]
        refine List.map_congr_left fun j _ => ?_
        rw [show zv.cells.size = i.size by simpa using hzs]
        rw [List.getElem!_eq_getElem?_getD, Array.getElem!_eq_getD, Array.getD_eq_getD_getElem?, Array.getElem?_toList]
      rw [e2]; exact this
    obtain ⟨g', j1, j2, j3, j4⟩ := newCells_ok hI e hV
    refine ⟨g', j1, j2, ?_, j4⟩
    simp only [V] at j3 ⊢
    obtain ⟨j3, j5⟩ := j3
    refine ⟨0, c.toNat, ?_, j3, ⟨hc.1, by omega⟩, ⟨by simp, fun _ => by simp⟩, fun _ => rfl, Nat.le_refl _⟩
    have : w.heap.size = g'.bx s.nb := by simpa using j5
    rw [this]

theorem clr_ok (hI : Inv CR g s w) {t e es ty : Nat} {z : AV} {x r : AV} {xv : Value} {c : Array TypeId} (hc : c[0]? = some t) (hu : P.underlying t = some (.slice e)) (hz : zeroT P e = some z)
    (he : 1 ≤ es ∧ z.cells.length = es) (hx : V g s w x xv) {self : Self} {ev : Tr} {X0 : X} (hX : X0.ev ev = x) (h : evOp self ev s (.clr es z.cells X0) = some (r, s')) :
    ∃ v w', (Builtin.clear_ c ty #[xv]).run P w = .ok v w' ∧ Good CR g s w s' r v w' := by
  simp only [evOp, hX] at h
  have e0 : (#[xv] : Array Value)[0]? = some xv := rfl
  split at h <;> try (cases h; done)
  · cases h
    simp only [V] at hx; subst hx
    refine ⟨.tuple #[], w, ?_, good_same hI (by simp [undef, V, VL])⟩
    simp [Builtin.clear_, hc, run_underlying hu]
  · rename_i id e' off n q
    split at h <;> try (cases h; done)
    simp only [V] at hx
    obtain ⟨o, cap, rfl, hid, hz1, _, ho1, _⟩ := hx
    split at h
    · rename_i h0
      subst h0
      cases h
      refine ⟨.tuple #[], w, ?_, good_same hI (by simp [undef, V, VL])⟩
      simp [Builtin.clear_, hc, run_underlying hu]
    · rename_i h0
      split at h <;> try (cases h; done)
      rename_i s1 hs
      cases h
      obtain ⟨zv, q1, q2⟩ := run_zeroValue hz
      have hzs : zv.cells.toList.length = es := by
        have := (V_cells (q2 g s w)).length
        omega
      have hV : VL g s w (repL n z.cells) (Builtin.zeroCells zv.cells n).toList := by
        have := VL_rep (V_cells (q2 g s w)) hzs he.1 n
        have e2 : (Builtin.zeroCells zv.cells n).toList = (List.range (n * es)).map fun j => zv.cells.toList[j % es]! := by
          simp only [Builtin.zeroCells, Array.toList_map, Array.toList_range]
          rw [show zv.cells.size = es by simpa using hzs]
          refine List.map_congr_left fun j _ => ?_
          rw [List.getElem!_eq_getElem?_getD, Array.getElem!_eq_getD, Array.getD_eq_getD_getElem?, Array.getElem?_toList]
        rw [e2]; exact this
      have ha : V g s w (.p id off) (.pointer (some ⟨g.bx id, off, none⟩)) := by simp only [V]; exact ⟨hid, trivial⟩
      have hv : V g s w (.agg (repL n z.cells)) (.agg (Builtin.zeroCells zv.cells n)) := by simp only [V]; exact ⟨_, hV, by simp⟩
      obtain ⟨w', ⟨ad, h1, _, h3⟩, hg⟩ := st_cells (P := P) hI ha hv hs
      have h1 := h1
      simp only [Value.pointer.injEq, Option.some.injEq] at h1
      subst h1
      have hoff : o = off := ho1 (by omega)
      subst hoff
      refine ⟨.tuple #[], w', ?_, hg⟩
      obtain ⟨m, rfl⟩ : ∃ m, n = m + 1 := ⟨n - 1, by omega⟩
      have h4 : (storeCells ⟨g.bx id, o, none⟩ (Builtin.zeroCells zv.cells (m + 1)).toList).run P w = .ok () w' := h3
      simp [Builtin.clear_, hc, run_underlying hu, q1, h4]

end Go.Proofs.YtfaodjpibdhdjaaDoor.Am
