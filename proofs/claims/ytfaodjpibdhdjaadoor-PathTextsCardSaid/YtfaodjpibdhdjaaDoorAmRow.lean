/-
  Rows that become boxes, and boxes of rows that are handed on for good.
-/
import Derived.Test.YtfaodjpibdhdjaaDoorAmOps8
set_option linter.all false
set_option linter.unusedVariables false
set_option linter.unusedSimpArgs false
set_option linter.unusedSectionVars false
set_option linter.constructorNameAsVariable false
namespace Go.Proofs.YtfaodjpibdhdjaaDoor.Am
variable {CR : Nat → Code → C → Prop} {P : Program} {g : G} {s s' : St} {w : World}

theorem prefix_of {arr : Array Value} {l : List Value} (h : ∀ (j : Nat) v, l[j]? = some v → arr[j]? = some v) : ∃ rest, arr.toList = l ++ rest := by
  refine ⟨arr.toList.drop l.length, ?_⟩
  apply List.ext_getElem?
  intro j
  by_cases hj : j < l.length
  · rw [List.getElem?_append_left hj]
    have := h j l[j] (List.getElem?_eq_getElem hj)
    rw [List.getElem?_eq_getElem hj, Array.getElem?_toList]; exact this
  · rw [List.getElem?_append_right (by omega), List.getElem?_drop]
    congr 1; omega

/-- A row's newest slice is lost. -/
theorem kill_ok (hI : Inv CR g s w) {k : Nat} {t : Tok} (ht : s.tok? k = some t) : Inv CR g (s.killTok k) w ∧ Le g s w g (s.killTok k) w ∧ Esc s (s.killTok k) := by
  have hk := tok?_lt ht
  have htok : ∀ j u, (s.killTok k).tok? j = some u → j ≠ k ∧ s.tok? j = some u := fun j u hj => by
    rw [killTok_tok? hI.lenT hk] at hj
    by_cases hjk : j = k
    · rw [if_pos hjk] at hj; cases hj
    · rw [if_neg hjk] at hj; exact ⟨hjk, hj⟩
  have hL : Le g s w g (s.killTok k) w := {
    io := ⟨rfl, rfl⟩
    own := fun b hb ho => ho
    frame := fun _ _ _ => ⟨rfl, rfl⟩
    base := rfl
    size := Nat.le_refl _
    low := fun _ _ => rfl
    prot := fun _ => Nat.le_refl _
    cell := fun _ _ _ _ hc => hc
    dfr := fun _ hb => hb
    nb := Nat.le_refl _
    bx := fun _ _ => rfl
    nt := Nat.le_refl _
    has := fun j u t' hkj hj => hkj.2 t' (htok j t' hj).2
    ok := fun j u hkj hj => by
      rw [ok_iff] at hj ⊢
      obtain ⟨t', hj, hu⟩ := hj
      exact ⟨t', (htok j t' hj).2, hu⟩
    tok := fun j t t' hjn hj hj' _ => by
      have := (htok j t' hj').2
      rw [hj] at this; cases this
      exact ⟨fun _ _ _ hc => hc, .inl ⟨rfl, Nat.le_refl _⟩⟩ }
  refine ⟨?_, hL, Esc.same rfl fun _ _ => rfl⟩
  exact {
    lenB := hI.lenB
    lenT := by simp [St.killTok, hI.lenT]
    base := hI.base
    fresh := hI.fresh
    lt := hI.lt
    pr := hI.pr
    box := fun id B hB => (hI.box id B hB).mono hL rfl
    inj := hI.inj
    tlt := fun j u hj => hI.tlt j u (htok j u hj).2
    tok := fun j u hj => { hI.tok j u (htok j u hj).2 with }
    tall := hI.tall
    tinj := fun i j u v hi hj => hI.tinj i j u v (htok i u hi).2 (htok j v hj).2
    btk := fun i B j u hB lb hj => hI.btk i B j u hB lb (htok j u hj).2 }

/-- A row that nobody has becomes a box. -/
theorem rowNew_ok (hI : Inv CR g s w) {k : Nat} (hk : k < s.nt) (hbase : g.base ≤ (g.tk k).blk) (hprot : g.prot (g.tk k).blk = 0) (hnb : ∀ i B, s.box? i = some B → B.live = true → g.bx i ≠ (g.tk k).blk)
    (hnt : ∀ j u, s.tok? j = some u → (g.tk j).blk ≠ (g.tk k).blk) {arr : Array Value} {T : Nat} {fr : Nat × Nat} (hh : w.heap[(g.tk k).blk]? = some (.cells arr T fr)) (hfr : fr.2 = 0) {l : List AV} {vs rest : List Value}
    (hl : arr.toList = vs ++ rest) (hV : VL g s w l vs) {rm : Nat} (hrm : rm ≤ arr.size) :
    ∃ g', Inv CR g' (s.new (.row T l false rm)) w ∧ Le g s w g' (s.new (.row T l false rm)) w ∧ g'.bx s.nb = (g.tk k).blk ∧ Esc s (s.new (.row T l false rm)) := by
  have hlt : (g.tk k).blk < w.heap.size := hI.tall k hk
  let g' : G := { g with bx := fun id => if id = s.nb then (g.tk k).blk else g.bx id }
  have hbx : ∀ id, id < s.nb → g'.bx id = g.bx id := fun id hid => by simp only [g']; rw [if_neg (by omega)]
  have hboxes : ∀ id B, (s.new (.row T l false rm)).box? id = some B → (id = s.nb ∧ B = .row T l false rm) ∨ (id ≠ s.nb ∧ s.box? id = some B) := fun id B hB => by
    rw [new_box?] at hB
    by_cases hid : id = s.nb
    · rw [if_pos hid] at hB; cases hB; exact .inl ⟨hid, rfl⟩
    · rw [if_neg hid] at hB; exact .inr ⟨hid, hB⟩
  have htok : ∀ j, (s.new (.row T l false rm)).tok? j = s.tok? j := fun j => rfl
  have hL : Le g s w g' (s.new (.row T l false rm)) w := {
    io := ⟨rfl, rfl⟩
    own := fun b hb ho => by
      rcases ho with ⟨id, hid, he⟩ | ⟨j, hj, he⟩
      · by_cases h : id = s.nb
        · subst h; simp only [g', if_pos] at he; exact .inr ⟨k, hk, he⟩
        · have hid' : id < s.nb := by simp [St.new] at hid; omega
          exact .inl ⟨id, hid', by rw [← hbx id hid']; exact he⟩
      · exact .inr ⟨j, hj, he⟩
    frame := fun _ _ _ => ⟨rfl, rfl⟩
    base := rfl
    size := Nat.le_refl _
    low := fun _ _ => rfl
    prot := fun _ => Nat.le_refl _
    cell := fun _ _ _ _ hc => hc
    dfr := fun _ hb => hb
    nb := by simp [St.new]
    bx := hbx
    nt := Nat.le_refl _
    has := fun j u t' hkj hj => hkj.2 t' hj
    ok := fun j u hkj hj => hj
    tok := fun j t t' hjn hj hj' _ => by
      rw [htok, hj] at hj'; cases hj'
      exact ⟨fun _ _ _ hc => hc, .inl ⟨rfl, Nat.le_refl _⟩⟩ }
  refine ⟨g', ?_, hL, by simp only [g', if_pos], esc_new s _⟩
  exact {
      lenB := by simp [St.new, hI.lenB]
      lenT := hI.lenT
      base := hI.base
      fresh := hI.fresh
      lt := fun id hid => by
        by_cases h : id = s.nb
        · subst h; simp only [g', if_pos]; exact ⟨hbase, hlt⟩
        · have hid' : id < s.nb := by simp [St.new] at hid; omega
          rw [hbx id hid']; exact hI.lt id hid'
      pr := fun id B hB hf => by
        rcases hboxes id B hB with ⟨rfl, rfl⟩ | ⟨hne, hB⟩
        · simp only [g', if_pos]; exact hprot
        · rw [hbx id (box?_lt hB)]; exact hI.pr id B hB hf
      box := fun id B hB => by
        rcases hboxes id B hB with ⟨rfl, rfl⟩ | ⟨hne, hB⟩
        · simp only [g', if_pos]
          exact ⟨arr, fr, hh, fun _ => hfr, vs, rest, hl, VL_mono hL _ _ hV, hrm⟩
        · rw [hbx id (box?_lt hB)]
          exact (hI.box id B hB).mono hL rfl
      inj := fun i j A B hA hB la lb he => by
        rcases hboxes i A hA with ⟨rfl, rfl⟩ | ⟨hi, hA⟩ <;> rcases hboxes j B hB with ⟨rfl, rfl⟩ | ⟨hj, hB⟩
        · rfl
        · rw [hbx j (box?_lt hB)] at he
          simp only [g', if_pos] at he
          exact absurd he.symm (hnb j B hB lb)
        · rw [hbx i (box?_lt hA)] at he
          simp only [g', if_pos] at he
          exact absurd he (hnb i A hA la)
        · rw [hbx i (box?_lt hA), hbx j (box?_lt hB)] at he
          exact hI.inj i j A B hA hB la lb he
      tlt := hI.tlt
      tok := fun j u hj => { hI.tok j u hj with }
      tall := hI.tall
      tinj := hI.tinj
      btk := fun i B j u hB lb hj he => by
        rcases hboxes i B hB with ⟨rfl, rfl⟩ | ⟨hne, hB⟩
        · simp only [g', if_pos] at he
          exact hnt j u hj he.symm
        · rw [hbx i (box?_lt hB)] at he
          exact hI.btk i B j u hB lb hj he }

/-- The newest slice of a row, none of which was handed on: the row is free, and what is known of it. -/
theorem tok_free (hI : Inv CR g s w) {es k : Nat} {xs : List AV} {v : Value} {T : Nat} {ve : Nat} (hv : V g s w (.sl es xs (.tok k ve)) v) (ht : s.tok? k = some ⟨xs.length, ve, 0, some T⟩) :
    ∃ cap, v = .slice (some ⟨(g.tk k).blk, 0, none⟩) xs.length cap ∧ 1 ≤ es ∧ xs.length ≤ cap ∧ ∀ (n : Nat) (e : Nat × Bool) (rm : Nat), n = s.lo ∨ n = s.nb → (e.1 ≤ cap * es ∧ (e.2 = true → cap * es = e.1)) → rm ≤ cap * es →
      ∃ g', Inv CR g' (({ s.killTok k with lo := n } : St).new (.row T (flatC xs) false rm)) w ∧ Le g ({ s.killTok k with lo := n } : St) w g' (({ s.killTok k with lo := n } : St).new (.row T (flatC xs) false rm)) w ∧
        Esc ({ s.killTok k with lo := n } : St) (({ s.killTok k with lo := n } : St).new (.row T (flatC xs) false rm)) ∧
        V g' (({ s.killTok k with lo := n } : St).new (.row T (flatC xs) false rm)) w (.bl s.nb es 0 xs.length e) v := by
  have hk := tok?_lt ht
  obtain ⟨hIk, hLk, _⟩ := kill_ok hI ht
  have htok : ∀ j u, (s.killTok k).tok? j = some u → j ≠ k ∧ s.tok? j = some u := fun j u hj => by
    rw [killTok_tok? hI.lenT hk] at hj
    by_cases hjk : j = k
    · rw [if_pos hjk] at hj; cases hj
    · rw [if_neg hjk] at hj; exact ⟨hjk, hj⟩
  simp only [V] at hv
  obtain ⟨b, o, cap, vs, rfl, hz, hal, hkn, hv⟩ := hv
  have hok : s.ok (.tok k ve) = true := by rw [ok_iff]; exact ⟨_, ht, rfl⟩
  obtain ⟨h1, h2, h3, h4⟩ := hv hok
  obtain ⟨rfl, hes, _, h4⟩ := h4
  obtain ⟨_, hloc⟩ := h4 _ ht
  have hloc := hloc rfl
  have hT := hI.tok k _ ht
  have hprot : g.prot (g.tk k).blk = 0 := by have := hT.prot; simp only at this; omega
  have hblk : (g.tk k).blk = b := by rw [hloc]
  obtain ⟨arr, T', fr, r1, r2, r3, r4⟩ := hT.row
  obtain ⟨rfl, hfr⟩ := r4 T rfl
  have hpre : ∃ rest, arr.toList = flat vs ++ rest := prefix_of fun j v hj => by
    have := h2 j v hj
    rw [← hblk] at this
    simp only [World.cell?, r1] at this
    simpa using this
  obtain ⟨rest, hrest⟩ := hpre
  refine ⟨cap, by rw [hblk], hz.1, hz.2, fun n e rm _ he hrm => ?_⟩
  have hIl : Inv CR g ({ s.killTok k with lo := n } : St) w := hIk.lo n
  have hV : VL g ({ s.killTok k with lo := n } : St) w (flatC xs) (flat vs) := VL_mono (hLk.trans (Le.lo n)) _ _ (VL_flatC h1)
  have hcs : cap * es ≤ arr.size := by rw [hloc rfl] at r2; exact r2
  obtain ⟨g', i1, i2, i3, i4⟩ := rowNew_ok hIl (k := k) hk hT.base hprot (fun i B hB lb => hI.btk i B k _ hB lb ht) (fun j u hj he => (htok j u hj).1 (hI.tinj j k _ _ (htok j u hj).2 ht he)) r1 (by simp only at hfr; omega) hrest hV (rm := rm) (by omega)
  refine ⟨g', i1, i2, i4, ?_⟩
  simp only [V]
  refine ⟨0, cap, ?_, by simp [St.new, St.killTok], hz, by simpa using he, (fun _ => rfl), Nat.le_refl _⟩
  have : g'.bx s.nb = (g.tk k).blk := i3
  rw [this, hblk]

theorem thaw_ok (hI : Inv CR g s w) {x r : AV} {v : Value} (hv : V g s w x v) (h : thawA s x = some (r, s')) : Good CR g s w s' r v w := by
  unfold thawA at h
  split at h
  case h_2 => cases h; exact good_same hI hv
  rename_i es xs k ver
  split at h
  case h_2 => cases h; exact good_same hI hv
  rename_i fr0 ve pu T ht
  split at h
  case isFalse => cases h; exact good_same hI hv
  rename_i hc
  obtain ⟨rfl, rfl, rfl⟩ := hc
  cases h
  obtain ⟨hIk, hLk, hEk⟩ := kill_ok hI ht
  obtain ⟨cap, rfl, h1, h2, key⟩ := tok_free hI hv ht
  have hle := Nat.mul_le_mul_right es h2
  obtain ⟨g', i1, i2, i3, i4⟩ := key s.lo (xs.length * es, false) 0 (.inl rfl) ⟨hle, fun h => by cases h⟩ (Nat.zero_le _)
  exact ⟨g', i1, hLk.trans i2, i4, Esc.trans (Nat.le_refl _) hEk i3⟩

theorem frz_ok (hI : Inv CR g s w) {x r : AV} {v : Value} (hv : V g s w x v) (h : frz s x = some (r, s')) : Good CR g s w s' r v w := by
  unfold frz at h
  split at h
  case h_2 => exact pub_ok hI hv h
  rename_i id es off n e
  split at h
  case h_2 => cases h; exact good_same hI hv
  rename_i T l fz rm hb
  split at h <;> try (cases h; done)
  rename_i cs hcut
  split at h <;> try (cases h; done)
  rename_i hc
  obtain ⟨hoff, hone, hes⟩ := hc
  cases h
  simp only [V] at hv
  obtain ⟨o, cap, rfl, hid, hz, _, ho1, ho2⟩ := hv
  obtain ⟨arr, fr, r1, hfr, vs, rest, r2, r3, r5⟩ := hI.box id _ hb
  have hlc := r3.length
  let g' : G := { g with prot := fun b => if b = g.bx id then max (g.prot b) l.length else g.prot b }
  have hpm : ∀ b, g.prot b ≤ g'.prot b := fun b => by simp only [g']; split <;> omega
  have hbs : ∀ j, (s.setBox id (.row T l true rm)).box? j = if j = id then some (.row T l true rm) else s.box? j := setBox_box? hI.lenB hid
  have hold : ∀ j B, (s.setBox id (.row T l true rm)).box? j = some B → ∃ B0, s.box? j = some B0 ∧ (j ≠ id → B0 = B) ∧ (B.live = true → B0.live = true) := fun j B hB => by
    rw [hbs] at hB
    by_cases hj : j = id
    · subst hj; exact ⟨_, hb, fun hh => absurd rfl hh, fun _ => rfl⟩
    · rw [if_neg hj] at hB; exact ⟨B, hB, fun _ => rfl, fun h => h⟩
  have hL : Le g s w g' (s.setBox id (.row T l true rm)) w := {
    io := ⟨rfl, rfl⟩
    own := fun _ _ h => h
    frame := fun b _ ho => ⟨rfl, by simp only [g']; rw [if_neg fun he => ho (.inl ⟨id, hid, he.symm⟩)]⟩
    base := rfl
    size := Nat.le_refl _
    low := fun _ _ => rfl
    prot := hpm
    cell := fun _ _ _ _ hc => hc
    dfr := fun _ hb => hb
    nb := Nat.le_refl _
    bx := fun _ _ => rfl
    nt := Nat.le_refl _
    has := fun _ _ _ hk h => hk.2 _ h
    ok := fun _ _ _ h => h
    tok := tokLe_same (fun _ => rfl) (fun _ _ _ _ _ _ hc => hc) (fun _ _ => rfl) }
  have hlive : (Box.row T l fz rm).live = true := rfl
  refine ⟨g', ?_, hL, ?_, esc_set hI hid fun a ha => ⟨_, hb, ha⟩⟩
  · exact {
      lenB := by simp [St.setBox, hI.lenB]
      lenT := hI.lenT
      base := hI.base
      fresh := fun b hb => by
        have := (hI.lt id hid).2
        simp only [g']; rw [if_neg (by omega)]; exact hI.fresh b hb
      lt := hI.lt
      pr := fun j B hB hf => by
        rw [hbs] at hB
        by_cases hj : j = id
        · subst hj; rw [if_pos rfl] at hB; cases hB; simp [Box.frz] at hf
        · rw [if_neg hj] at hB
          have hne : g.bx j ≠ g.bx id := fun he => hj (hI.inj j id B _ hB hb (live_of hf) hlive he)
          simp only [g']; rw [if_neg hne]; exact hI.pr j B hB hf
      box := fun j B hB => by
        rw [hbs] at hB
        by_cases hj : j = id
        · subst hj; rw [if_pos rfl] at hB; cases hB
          exact ⟨arr, fr, r1, (fun hh => by cases hh), vs, rest, r2, VL_mono hL _ _ r3, r5⟩
        · rw [if_neg hj] at hB; exact (hI.box j B hB).mono hL rfl
      inj := fun i j A B hA hB la lb he => by
        obtain ⟨A0, a1, _, a3⟩ := hold i A hA
        obtain ⟨B0, b1, _, b3⟩ := hold j B hB
        exact hI.inj i j A0 B0 a1 b1 (a3 la) (b3 lb) he
      tlt := hI.tlt
      tok := fun k t ht => by
        have h0 := hI.tok k t ht
        refine { h0 with prot := ?_ }
        have hne : (g.tk k).blk ≠ g.bx id := fun he => hI.btk id _ k t hb hlive ht he.symm
        simp only [g']; rw [if_neg hne]; exact h0.prot
      tall := hI.tall
      tinj := hI.tinj
      btk := fun i B k t hB lb ht => by
        obtain ⟨B0, b1, _, b3⟩ := hold i B hB
        exact hI.btk i B0 k t b1 (b3 lb) ht }
  · obtain ⟨c1, c2, c3⟩ := VL_cut r3 hcut
    obtain ⟨us, u1, u2, u3⟩ := chunk_ok hes n (l := cs) c2 hone c1
    have hcl : (chunk es n cs).length = n := chunk_len es n cs (by omega) hes
    have hnl : off + n * es ≤ l.length := by
      have : cs.length = ((l.drop off).take (n * es)).length := by rw [c3]
      rw [List.length_take, List.length_drop] at this
      omega
    simp only [V]
    refine ⟨g.bx id, o, cap, us, by rw [hcl], ⟨hes, by rw [hcl]; exact hz.2⟩, u3, trivial, fun _ => ⟨VL_mono hL _ _ u1, ?_, ?_, ?_⟩⟩
    · rw [u2]
      intro j v hj
      have hjl : j < n * es := by have := (List.getElem?_eq_some_iff.1 hj).1; rw [List.length_take] at this; omega
      have hcap : 0 < cap := by
        have : 0 < n := by
          rcases Nat.eq_zero_or_pos n with h0 | h0
          · subst h0; simp at hjl
          · exact h0
        omega
      rw [ho1 hcap]
      have h1 : vs[off + j]? = some v := by
        rw [List.getElem?_take_of_lt hjl, List.getElem?_drop] at hj; exact hj
      simp only [World.cell?, r1]
      have : arr.toList[off + j]? = some v := by rw [r2, List.getElem?_append_left (List.getElem?_eq_some_iff.1 h1).1]; exact h1
      simpa using this
    · rw [hcl]
      right
      simp only [g', if_pos]
      omega
    · rw [hcl]; exact hz.2

theorem frzL_ok : ∀ {l : List AV} {g : G} {s s' : St} {us : List Value} {vs : List AV}, Inv CR g s w → VL g s w l us → frzL s l = some (vs, s') → GoodL CR g s w s' vs us w
  | [], g, s, s', us, vs, hI, hv, h => by
    simp only [frzL] at h; cases h
    exact ⟨g, hI, Le.refl _ _ _, hv, Esc.refl _⟩
  | a :: l, g, s, s', us, vs, hI, hv, h => by
    simp only [frzL] at h
    split at h <;> try (cases h; done)
    rename_i a1 s1 h1
    split at h <;> try (cases h; done)
    rename_i l1 s2 h2
    cases h
    simp only [VL] at hv
    obtain ⟨v, r, rfl, hv1, hv2⟩ := hv
    obtain ⟨g1, hI1, hL1, hV1, hE1⟩ := frz_ok hI hv1 h1
    obtain ⟨g2, hI2, hL2, hV2, hE2⟩ := frzL_ok hI1 (VL_mono hL1 _ _ hv2) h2
    exact ⟨g2, hI2, hL1.trans hL2, by simp only [VL]; exact ⟨v, r, rfl, V_mono hL2 _ _ hV1, hV2⟩, Esc.trans hL1.nb hE1 hE2⟩
end Go.Proofs.YtfaodjpibdhdjaaDoor.Am
