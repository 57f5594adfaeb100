/-
  Rows that become boxes, and boxes of rows that are handed on for good.
-/
import Derived.Test.YtcdbpkfbnhjgdaaGreatDoorAmOps8
set_option linter.all false
set_option linter.unusedVariables false
set_option linter.unusedSimpArgs false
set_option linter.unusedSectionVars false
set_option linter.constructorNameAsVariable false
namespace Go.Proofs.YtcdbpkfbnhjgdaaGreatDoor.Am
variable {CR : Nat → Code → C → Prop} {P : Program} {g : G} {s s' : St} {w : World}

theorem prefix_of {arr : Array Value} {l : List Value} (h : ∀ (j : Nat) v, l[j]? = some v → arr[j]? = some v) : ∃ rest, arr.toList = l ++ rest := by
  refine ⟨arr.toList.drop l.length, ?_⟩
  apply List.ext_getElem?
  intro j
  by_cases hj : j < l.length
  · rw [List.getElem?_append_left hj]
    have := h j l[j] (List.getElem?_eq_getElem hj)
    rw [List.getElem?_eq_getElem hj, Array.getElem?_toList]; exact this
  · rw [List.getElem?_append_right (by omega), List.getElem?_drop]
    congr 1; omega

theorem thaw_ok (hI : Inv CR g s w) {x r : AV} {v : Value} (hv : V g s w x v) (h : thawA s x = some (r, s')) : Good CR g s w s' r v w := by
  unfold thawA at h
  split at h
  case h_2 => cases h; exact good_same hI hv
  rename_i es xs k ver
  split at h
  case h_2 => cases h; exact good_same hI hv
  rename_i fr0 ve pu T ht
  split at h
  case isFalse => cases h; exact good_same hI hv
  rename_i hc
  obtain ⟨rfl, rfl, rfl⟩ := hc
  cases h
  have hk := tok?_lt ht
  simp only [V] at hv
  obtain ⟨b, o, cap, vs, rfl, hz, hal, hkn, hv⟩ := hv
  have hok : s.ok (.tok k ve) = true := by rw [ok_iff]; exact ⟨_, ht, rfl⟩
  obtain ⟨h1, h2, h3, h4⟩ := hv hok
  obtain ⟨rfl, hes, _, h4⟩ := h4
  obtain ⟨_, hloc⟩ := h4 _ ht
  have hloc := hloc rfl
  have hT := hI.tok k _ ht
  have hprot : g.prot (g.tk k).blk = 0 := by have := hT.prot; simp only at this; omega
  have hblk : (g.tk k).blk = b := by rw [hloc]
  let g' : G := { g with bx := fun id => if id = s.nb then (g.tk k).blk else g.bx id }
  have hbx : ∀ id, id < s.nb → g'.bx id = g.bx id := fun id hid => by simp only [g']; rw [if_neg (by omega)]
  have htok : ∀ j u, ((s.killTok k).new (.row T (flatC xs) false)).tok? j = some u → j ≠ k ∧ s.tok? j = some u := fun j u hj => by
    have hj : (s.killTok k).tok? j = some u := hj
    rw [killTok_tok? hI.lenT hk] at hj
    by_cases hjk : j = k
    · rw [if_pos hjk] at hj; cases hj
    · rw [if_neg hjk] at hj; exact ⟨hjk, hj⟩
  have hboxes : ∀ id B, ((s.killTok k).new (.row T (flatC xs) false)).box? id = some B → (id = s.nb ∧ B = .row T (flatC xs) false) ∨ (id ≠ s.nb ∧ s.box? id = some B) := fun id B hB => by
    rw [new_box?] at hB
    by_cases hid : id = (s.killTok k).nb
    · rw [if_pos hid] at hB; cases hB; exact .inl ⟨hid, rfl⟩
    · rw [if_neg hid] at hB; exact .inr ⟨hid, hB⟩
  have hL : Le g s w g' ((s.killTok k).new (.row T (flatC xs) false)) w := {
    io := ⟨rfl, rfl⟩
    own := fun b hb ho => by
      rcases ho with ⟨id, hid, he⟩ | ⟨j, hj, he⟩
      · by_cases h : id = s.nb
        · subst h; simp only [g', if_pos] at he; exact .inr ⟨k, hk, he⟩
        · have hid' : id < s.nb := by simp [St.new, St.killTok] at hid; omega
          exact .inl ⟨id, hid', by rw [← hbx id hid']; exact he⟩
      · exact .inr ⟨j, hj, he⟩
    frame := fun _ _ _ => ⟨rfl, rfl⟩
    base := rfl
    size := Nat.le_refl _
    low := fun _ _ => rfl
    prot := fun _ => Nat.le_refl _
    cell := fun _ _ _ _ hc => hc
    dfr := fun _ hb => hb
    nb := by simp [St.new, St.killTok]
    bx := hbx
    nt := Nat.le_refl _
    has := fun j u t' hkj hj => hkj.2 t' (htok j t' hj).2
    ok := fun j u hkj hj => by
      rw [ok_iff] at hj ⊢
      obtain ⟨t', hj, hu⟩ := hj
      exact ⟨t', (htok j t' hj).2, hu⟩
    tok := fun j t t' hjn hj hj' _ => by
      have := (htok j t' hj').2
      rw [hj] at this; cases this
      exact ⟨fun _ _ _ hc => hc, .inl ⟨rfl, Nat.le_refl _⟩⟩ }
  obtain ⟨arr, T', fr, r1, r2, r3, r4⟩ := hT.row
  obtain ⟨rfl, hfr⟩ := r4 T rfl
  have hpre : ∃ rest, arr.toList = flat vs ++ rest := prefix_of fun j v hj => by
    have := h2 j v hj
    rw [← hblk] at this
    simp only [World.cell?, r1] at this
    simpa using this
  obtain ⟨rest, hrest⟩ := hpre
  refine ⟨g', ?_, hL, ?_, ?_⟩
  · exact {
      lenB := by simp [St.new, St.killTok, hI.lenB]
      lenT := by simp [St.new, St.killTok, hI.lenT]
      base := hI.base
      fresh := hI.fresh
      lt := fun id hid => by
        by_cases h : id = s.nb
        · subst h; simp only [g', if_pos]; exact ⟨hT.base, hI.tlt k _ ht⟩
        · have hid' : id < s.nb := by simp [St.new, St.killTok] at hid; omega
          rw [hbx id hid']; exact hI.lt id hid'
      pr := fun id B hB hf => by
        rcases hboxes id B hB with ⟨rfl, rfl⟩ | ⟨hne, hB⟩
        · simp only [g', if_pos]; exact hprot
        · rw [hbx id (box?_lt hB)]; exact hI.pr id B hB hf
      box := fun id B hB => by
        rcases hboxes id B hB with ⟨rfl, rfl⟩ | ⟨hne, hB⟩
        · simp only [g', if_pos]
          exact ⟨arr, fr, r1, fun _ => by simp only at hfr; omega, flat vs, rest, hrest, VL_mono hL _ _ (VL_flatC h1)⟩
        · rw [hbx id (box?_lt hB)]
          exact (hI.box id B hB).mono hL rfl
      inj := fun i j A B hA hB la lb he => by
        rcases hboxes i A hA with ⟨rfl, rfl⟩ | ⟨hi, hA⟩ <;> rcases hboxes j B hB with ⟨rfl, rfl⟩ | ⟨hj, hB⟩
        · rfl
        · rw [hbx j (box?_lt hB)] at he
          simp only [g', if_pos] at he
          exact absurd he.symm (hI.btk j B k _ hB lb ht)
        · rw [hbx i (box?_lt hA)] at he
          simp only [g', if_pos] at he
          exact absurd he (hI.btk i A k _ hA la ht)
        · rw [hbx i (box?_lt hA), hbx j (box?_lt hB)] at he
          exact hI.inj i j A B hA hB la lb he
      tlt := fun j u hj => hI.tlt j u (htok j u hj).2
      tok := fun j u hj => { hI.tok j u (htok j u hj).2 with }
      tall := hI.tall
      tinj := fun i j u v hi hj => hI.tinj i j u v (htok i u hi).2 (htok j v hj).2
      btk := fun i B j u hB lb hj he => by
        obtain ⟨hjk, hj⟩ := htok j u hj
        rcases hboxes i B hB with ⟨rfl, rfl⟩ | ⟨hne, hB⟩
        · simp only [g', if_pos] at he
          exact hjk (hI.tinj j k _ _ hj ht he.symm)
        · rw [hbx i (box?_lt hB)] at he
          exact hI.btk i B j u hB lb hj he }
  · simp only [V]
    refine ⟨0, cap, ?_, by simp [St.new, St.killTok], ⟨hz.1, hz.2⟩, ⟨by have := Nat.mul_le_mul_right es hz.2; omega, fun h => by cases h⟩, (fun _ => rfl), Nat.le_refl _⟩
    simp only [g', if_pos, hblk]
  · exact esc_new (s.killTok k) _

theorem frz_ok (hI : Inv CR g s w) {x r : AV} {v : Value} (hv : V g s w x v) (h : frz s x = some (r, s')) : Good CR g s w s' r v w := by
  unfold frz at h
  split at h
  case h_2 => exact pub_ok hI hv h
  rename_i id es off n e
  split at h
  case h_2 => cases h; exact good_same hI hv
  rename_i T l fz hb
  split at h <;> try (cases h; done)
  rename_i cs hcut
  split at h <;> try (cases h; done)
  rename_i hc
  obtain ⟨hoff, hone, hes⟩ := hc
  cases h
  simp only [V] at hv
  obtain ⟨o, cap, rfl, hid, hz, _, ho1, ho2⟩ := hv
  obtain ⟨arr, fr, r1, hfr, vs, rest, r2, r3⟩ := hI.box id _ hb
  have hlc := r3.length
  let g' : G := { g with prot := fun b => if b = g.bx id then max (g.prot b) l.length else g.prot b }
  have hpm : ∀ b, g.prot b ≤ g'.prot b := fun b => by simp only [g']; split <;> omega
  have hbs : ∀ j, (s.setBox id (.row T l true)).box? j = if j = id then some (.row T l true) else s.box? j := setBox_box? hI.lenB hid
  have hold : ∀ j B, (s.setBox id (.row T l true)).box? j = some B → ∃ B0, s.box? j = some B0 ∧ (j ≠ id → B0 = B) ∧ (B.live = true → B0.live = true) := fun j B hB => by
    rw [hbs] at hB
    by_cases hj : j = id
    · subst hj; exact ⟨_, hb, fun hh => absurd rfl hh, fun _ => rfl⟩
    · rw [if_neg hj] at hB; exact ⟨B, hB, fun _ => rfl, fun h => h⟩
  have hL : Le g s w g' (s.setBox id (.row T l true)) w := {
    io := ⟨rfl, rfl⟩
    own := fun _ _ h => h
    frame := fun b _ ho => ⟨rfl, by simp only [g']; rw [if_neg fun he => ho (.inl ⟨id, hid, he.symm⟩)]⟩
    base := rfl
    size := Nat.le_refl _
    low := fun _ _ => rfl
    prot := hpm
    cell := fun _ _ _ _ hc => hc
    dfr := fun _ hb => hb
    nb := Nat.le_refl _
    bx := fun _ _ => rfl
    nt := Nat.le_refl _
    has := fun _ _ _ hk h => hk.2 _ h
    ok := fun _ _ _ h => h
    tok := tokLe_same (fun _ => rfl) (fun _ _ _ _ _ _ hc => hc) (fun _ _ => rfl) }
  have hlive : (Box.row T l fz).live = true := rfl
  refine ⟨g', ?_, hL, ?_, esc_set hI hid fun a ha => ⟨_, hb, ha⟩⟩
  · exact {
      lenB := by simp [St.setBox, hI.lenB]
      lenT := hI.lenT
      base := hI.base
      fresh := fun b hb => by
        have := (hI.lt id hid).2
        simp only [g']; rw [if_neg (by omega)]; exact hI.fresh b hb
      lt := hI.lt
      pr := fun j B hB hf => by
        rw [hbs] at hB
        by_cases hj : j = id
        · subst hj; rw [if_pos rfl] at hB; cases hB; simp [Box.frz] at hf
        · rw [if_neg hj] at hB
          have hne : g.bx j ≠ g.bx id := fun he => hj (hI.inj j id B _ hB hb (live_of hf) hlive he)
          simp only [g']; rw [if_neg hne]; exact hI.pr j B hB hf
      box := fun j B hB => by
        rw [hbs] at hB
        by_cases hj : j = id
        · subst hj; rw [if_pos rfl] at hB; cases hB
          exact ⟨arr, fr, r1, (fun hh => by cases hh), vs, rest, r2, VL_mono hL _ _ r3⟩
        · rw [if_neg hj] at hB; exact (hI.box j B hB).mono hL rfl
      inj := fun i j A B hA hB la lb he => by
        obtain ⟨A0, a1, _, a3⟩ := hold i A hA
        obtain ⟨B0, b1, _, b3⟩ := hold j B hB
        exact hI.inj i j A0 B0 a1 b1 (a3 la) (b3 lb) he
      tlt := hI.tlt
      tok := fun k t ht => by
        have h0 := hI.tok k t ht
        refine { h0 with prot := ?_ }
        have hne : (g.tk k).blk ≠ g.bx id := fun he => hI.btk id _ k t hb hlive ht he.symm
        simp only [g']; rw [if_neg hne]; exact h0.prot
      tall := hI.tall
      tinj := hI.tinj
      btk := fun i B k t hB lb ht => by
        obtain ⟨B0, b1, _, b3⟩ := hold i B hB
        exact hI.btk i B0 k t b1 (b3 lb) ht }
  · obtain ⟨c1, c2, c3⟩ := VL_cut r3 hcut
    obtain ⟨us, u1, u2, u3⟩ := chunk_ok hes n (l := cs) c2 hone c1
    have hcl : (chunk es n cs).length = n := chunk_len es n cs (by omega) hes
    have hnl : off + n * es ≤ l.length := by
      have : cs.length = ((l.drop off).take (n * es)).length := by rw [c3]
      rw [List.length_take, List.length_drop] at this
      omega
    simp only [V]
    refine ⟨g.bx id, o, cap, us, by rw [hcl], ⟨hes, by rw [hcl]; exact hz.2⟩, u3, trivial, fun _ => ⟨VL_mono hL _ _ u1, ?_, ?_, ?_⟩⟩
    · rw [u2]
      intro j v hj
      have hjl : j < n * es := by have := (List.getElem?_eq_some_iff.1 hj).1; rw [List.length_take] at this; omega
      have hcap : 0 < cap := by
        have : 0 < n := by
          rcases Nat.eq_zero_or_pos n with h0 | h0
          · subst h0; simp at hjl
          · exact h0
        omega
      rw [ho1 hcap]
      have h1 : vs[off + j]? = some v := by
        rw [List.getElem?_take_of_lt hjl, List.getElem?_drop] at hj; exact hj
      simp only [World.cell?, r1]
      have : arr.toList[off + j]? = some v := by rw [r2, List.getElem?_append_left (List.getElem?_eq_some_iff.1 h1).1]; exact h1
      simpa using this
    · rw [hcl]
      right
      simp only [g', if_pos]
      omega
    · rw [hcl]; exact hz.2

theorem frzL_ok : ∀ {l : List AV} {g : G} {s s' : St} {us : List Value} {vs : List AV}, Inv CR g s w → VL g s w l us → frzL s l = some (vs, s') → GoodL CR g s w s' vs us w
  | [], g, s, s', us, vs, hI, hv, h => by
    simp only [frzL] at h; cases h
    exact ⟨g, hI, Le.refl _ _ _, hv, Esc.refl _⟩
  | a :: l, g, s, s', us, vs, hI, hv, h => by
    simp only [frzL] at h
    split at h <;> try (cases h; done)
    rename_i a1 s1 h1
    split at h <;> try (cases h; done)
    rename_i l1 s2 h2
    cases h
    simp only [VL] at hv
    obtain ⟨v, r, rfl, hv1, hv2⟩ := hv
    obtain ⟨g1, hI1, hL1, hV1, hE1⟩ := frz_ok hI hv1 h1
    obtain ⟨g2, hI2, hL2, hV2, hE2⟩ := frzL_ok hI1 (VL_mono hL1 _ _ hv2) h2
    exact ⟨g2, hI2, hL1.trans hL2, by simp only [VL]; exact ⟨v, r, rfl, V_mono hL2 _ _ hV1, hV2⟩, Esc.trans hL1.nb hE1 hE2⟩
end Go.Proofs.YtcdbpkfbnhjgdaaGreatDoor.Am
