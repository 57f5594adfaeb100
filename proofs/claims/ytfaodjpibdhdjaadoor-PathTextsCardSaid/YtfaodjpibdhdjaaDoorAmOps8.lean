/-
  Conversions, texts cut and gone through.
-/
import Derived.Test.YtfaodjpibdhdjaaDoorAmOps7
set_option linter.all false
set_option linter.unusedVariables false
set_option linter.unusedSimpArgs false
set_option linter.unusedSectionVars false
set_option linter.constructorNameAsVariable false
namespace Go.Proofs.YtfaodjpibdhdjaaDoor.Am
variable {CR : Nat → Code → C → Prop} {P : Program} {g : G} {s s' : St} {w : World}

theorem byteOf_ok {a : AV} {v : Value} {n : Nat} (hv : V g s w a v) (h : byteOf a = some n) : v = .int .u8 (Int.ofNat n) ∧ n < 256 := by
  unfold byteOf at h
  split at h
  · rename_i m
    split at h
    · rename_i h0
      cases h
      simp only [V] at hv
      exact ⟨by rw [hv]; congr 1; exact (Int.toNat_of_nonneg h0.1).symm, by omega⟩
    · cases h
  · cases h

theorem bytesL_ok : ∀ {l : List AV} {r : List Nat} {vs : List Value}, VL g s w l vs → bytesL l = some r → vs = r.map (fun n => Value.int .u8 (Int.ofNat n)) ∧ (∀ n ∈ r, n < 256) ∧ r.length = l.length
  | [], r, vs, h, hb => by
    simp only [bytesL] at hb; cases hb
    simp only [VL] at h; subst h; simp
  | a :: l, r, vs, h, hb => by
    simp only [bytesL] at hb
    split at hb
    · rename_i n r' h1 h2
      cases hb
      simp only [VL] at h
      obtain ⟨v, vs', rfl, k1, k2⟩ := h
      obtain ⟨e1, e2⟩ := byteOf_ok k1 h1
      obtain ⟨e3, e4, e5⟩ := bytesL_ok k2 h2
      subst e1; subst e3
      refine ⟨rfl, ?_, by simp [e5]⟩
      intro m hm
      rcases List.mem_cons.1 hm with rfl | hm
      · exact e2
      · exact e4 m hm
    · cases hb

theorem allLen_bytes {es : Nat} : ∀ {l : List AV} {r : List Nat}, allLen es l = true → bytesL l = some r → 1 ≤ l.length → es = 1
  | a :: l, r, ha, hb, _ => by
    simp only [allLen, Bool.and_eq_true] at ha
    have h1 := Nat.eq_of_beq_eq_true ha.1.1
    simp only [bytesL] at hb
    split at hb
    · rename_i n r' h2 h3
      unfold byteOf at h2
      split at h2
      · simpa [AV.cells] using h1.symm
      · cases h2
    · cases hb

theorem bytes_ext {x y : ByteArray} (h : x.data = y.data) : x = y := by cases x; cases y; simp_all

theorem flat_bytes : ∀ l : List Nat, flat (l.map fun n => Value.int .u8 (Int.ofNat n)) = l.map fun n => Value.int .u8 (Int.ofNat n)
  | [] => rfl
  | a :: l => by simp only [List.map_cons, flat_cons, flat_bytes l]; rfl

theorem run_pushBytes {f : Value → ByteArray → Sem (ForInStep ByteArray)} (hf : ∀ (n : Nat) s, f (.int .u8 (Int.ofNat n)) s = pure (.yield (s.push (UInt8.ofNat n)))) :
    ∀ (r : List Nat) (s0 : ByteArray), (forIn (r.map fun n => Value.int .u8 (Int.ofNat n)).toArray s0 f : Sem ByteArray).run P w = .ok (s0 ++ bytesOf r) w
  | [], s0 => by
    have : s0 ++ bytesOf [] = s0 := by
      apply bytes_ext
      rw [ByteArray.data_append]
      simp [bytesOf]
    rw [this]
    simp
  | n :: r, s0 => by
    have ih := run_pushBytes hf r (s0.push (UInt8.ofNat n))
    simp only [List.forIn_toArray, List.map_cons, List.forIn_cons, Sem.run_bind, hf] at ih ⊢
    simp only [Sem.run_pure, Result.andThen_ok]
    rw [ih]
    congr 1
    apply bytes_ext
    rw [ByteArray.data_append, ByteArray.data_append]
    apply Array.toList_inj.1
    simp [bytesOf]

theorem cvBS_ok {t u e : Nat} (hu : P.underlying t = some (.slice e)) (he : P.underlying e = some (.int .u8)) (hd : P.underlying u = some .string) {x : AV} {xv : Value} {r : List Nat} (hx : V g s w x xv)
    (h : (match x with | .nsl => some [] | .wz => some [] | .sl _ xs m => if s.ok m then bytesL xs else none | _ => none) = some r) :
    ∃ v, (convert t u xv).run P w = .ok v w ∧ V g s w (.s r) v := by
  have conv : ∀ x : Value, (∀ k n, x ≠ .int k n) → (∀ k n, x ≠ .float k n) → (∀ k a b, x ≠ .complex k a b) → (∀ s, x ≠ .string s) → (convert t u x).run P w = (Conv.bytesToString x).run P w := by
    intro x h1 h2 h3 h4
    cases x with
    | int k n => exact absurd rfl (h1 _ _)
    | float k n => exact absurd rfl (h2 _ _)
    | complex k a b => exact absurd rfl (h3 _ _ _)
    | string s => exact absurd rfl (h4 _)
    | slice a l c => cases a <;> simp [convert, run_underlying hu, run_underlying hd, run_underlying he]
    | _ => simp [convert, run_underlying hu, run_underlying hd, run_underlying he]
  cases x <;> simp only at h <;> try (cases h; done)
  case wz =>
    cases h
    simp only [V] at hx; obtain ⟨a, rfl⟩ := hx
    exact ⟨.string .empty, by rw [conv _ (by simp) (by simp) (by simp) (by simp)]; simp [Conv.bytesToString, loadCells, loadCellsFrom], by simp only [V]; exact ⟨rfl, by simp⟩⟩
  case nsl =>
    cases h
    simp only [V] at hx; subst hx
    exact ⟨.string .empty, by rw [conv _ (by simp) (by simp) (by simp) (by simp)]; simp [Conv.bytesToString], by simp only [V]; exact ⟨rfl, by simp⟩⟩
  case sl es xs m =>
    by_cases hok : s.ok m = true
    case neg => rw [if_neg hok] at h; cases h
    rw [if_pos hok] at h
    simp only [V] at hx
    obtain ⟨b, o, cap, vs, rfl, h1, h2, h3, h4⟩ := hx
    obtain ⟨k1, k2, _, _⟩ := h4 hok
    obtain ⟨e1, e2, e3⟩ := bytesL_ok k1 h
    have hfl : flat vs = vs := by rw [e1, flat_bytes]
    refine ⟨.string (bytesOf r), ?_, by simp only [V]; exact ⟨trivial, e2⟩⟩
    rw [conv _ (by simp) (by simp) (by simp) (by simp)]
    have hl := k1.length
    rw [hfl] at k2
    simp only [Conv.bytesToString, Sem.run_bind, run_loadCells (P := P) hl k2, Result.andThen_ok]
    subst e1
    rw [run_pushBytes (P := P) (w := w) (fun n s => by simp) r ByteArray.empty]
    simp only [Result.andThen_ok, Sem.run_pure]
    congr 2

theorem cvBL_ok {t u e : Nat} (hI : Inv CR g s w) (hu : P.underlying t = some (.slice e)) (he : P.underlying e = some (.int .u8)) (hd : P.underlying u = some .string) {id off n : Nat} {x : Nat × Bool} {xv : Value} {ys : List AV} {r : List Nat}
    (hx : V g s w (.bl id 1 off n x) xv) (hr : rowB s id off n = some ys) (h : bytesL ys = some r) : ∃ v, (convert t u xv).run P w = .ok v w ∧ V g s w (.s r) v := by
  obtain ⟨vs, k1, k2, k3, k4⟩ := rowB_ok hI hr
  obtain ⟨e1, e2, e3⟩ := bytesL_ok k1 h
  simp only [V] at hx
  obtain ⟨o, cap, rfl, _, hz, _, hoff, _⟩ := hx
  refine ⟨.string (bytesOf r), ?_, by simp only [V]; exact ⟨trivial, e2⟩⟩
  rw [show convert t u (.slice (some ⟨g.bx id, o, none⟩) n cap) = convert t u (.slice (some ⟨g.bx id, o, none⟩) n cap) from rfl]
  have conv : (convert t u (.slice (some ⟨g.bx id, o, none⟩) n cap)).run P w = (Conv.bytesToString (.slice (some ⟨g.bx id, o, none⟩) n cap)).run P w := by
    simp [convert, run_underlying hu, run_underlying hd, run_underlying he]
  rw [conv]
  have hld : (loadCells ⟨g.bx id, o, none⟩ n).run P w = .ok vs.toArray w := by
    by_cases h0 : n = 0
    · subst h0
      have : vs = [] := List.length_eq_zero_iff.1 k2
      subst this
      simp [loadCells, loadCellsFrom]
    · rw [hoff (by omega)]; exact run_loadCells k2 k4
  simp only [Conv.bytesToString, Sem.run_bind, hld, Result.andThen_ok]
  subst e1
  rw [run_pushBytes (P := P) (w := w) (fun n s => by simp) r ByteArray.empty]
  simp only [Result.andThen_ok, Sem.run_pure]
  congr 2

theorem cvSB_ok {t u e : Nat} (hI : Inv CR g s w) (hd : P.underlying u = some (.slice e)) (he : P.underlying e = some (.int .u8)) (ht : P.underlying t = some .string) {l : List Nat} {xv : Value} (hx : V g s w (.s l) xv) :
    ∃ v w', (convert t u xv).run P w = .ok v w' ∧ Good CR g s w (s.newTok l.length none) (.sl 1 (l.map fun n => AV.i .u8 (Int.ofNat n)) (.tok s.nt 0)) v w' := by
  simp only [V] at hx
  obtain ⟨rfl, hlt⟩ := hx
  have hdr : Le g s w g s { w with drawn := w.drawn + 1 } := Le.heap rfl
  have hIdr : Inv CR g s { w with drawn := w.drawn + 1 } := Inv.heap (w := w) rfl hI
  obtain ⟨cap, hcap1, hcap2⟩ : ∃ cap, cap = Question.cut (.appendCap (bytesOf l).size 0 e) (w.tape w.drawn (.appendCap (bytesOf l).size 0 e)) ∧ l.length ≤ cap := by
    refine ⟨_, rfl, ?_⟩
    simp only [Question.cut, bytes_size]; omega
  have hal : ∀ l : List Nat, allLen 1 (l.map fun n => AV.i .u8 (Int.ofNat n)) = true := by
    intro l; induction l with
    | nil => rfl
    | cons a l ih => simp only [List.map_cons, allLen, AV.cells, List.length_cons, List.length_nil, ih]; rfl
  have hVL : ∀ (s : St) (w : World) (l : List Nat), VL g s w (l.map fun n => AV.i .u8 (Int.ofNat n)) (l.map fun n => Value.int .u8 (Int.ofNat n)) := by
    intro s w l; induction l with
    | nil => simp [VL]
    | cons a l ih => simp only [List.map_cons, VL]; exact ⟨_, _, rfl, by simp [V], ih⟩
  have hfl : ∀ l : List Nat, flat (l.map fun n => Value.int .u8 (Int.ofNat n)) = l.map fun n => Value.int .u8 (Int.ofNat n) := by
    intro l; induction l with
    | nil => rfl
    | cons a l ih => simp only [List.map_cons, flat_cons, ih]; rfl
  let arr : Array Value := ((bytesOf l).data.map fun b => Value.int .u8 b.toNat) ++ Array.replicate (cap - (bytesOf l).size) (.int .u8 0)
  have harr : arr.toList = flat (l.map fun n => Value.int .u8 (Int.ofNat n)) ++ List.replicate (cap - l.length) (.int .u8 0) := by
    simp only [arr, Array.toList_append, Array.toList_map, bytes_get, List.map_map, hfl, bytes_size, Array.toList_replicate]
    congr 1
    apply List.map_congr_left
    intro n hn
    have := hlt n hn
    simp only [Function.comp_apply]
    rw [show (UInt8.ofNat n).toNat = n by rw [UInt8.toNat_ofNat']; omega]
    rfl
  have hsz : arr.size = cap := by
    have := congrArg List.length harr
    rw [hfl] at this
    simp at this
    omega
  have hg := newTok_good (CR := CR) hIdr (es := 1) (cap := cap) (Nat.le_refl 1) (hal l) (hVL s _ l) (arr := arr) e (rest := List.replicate (cap - l.length) (.int .u8 0)) harr (by simpa using hcap2) (by omega) (ty := none) (fr := (cap, cap + 1)) (fun x hx => by simp only; omega) (fun T' hT => by cases hT)
  simp only [List.length_map] at hg
  refine ⟨_, _, ?_, Good.from hdr (Esc.refl _) hg⟩
  simp only [convert, Sem.run_bind, run_underlying ht, run_underlying hd, Result.andThen_ok, run_underlying he, Conv.stringToBytes, run_choose, Question.forced, Bool.false_eq_true, if_false]
  rw [← hcap1]
  simp only [newRow, Sem.run_bind, run_newObj, Result.andThen_ok, Sem.run_pure, markStringish, run_shape]
  have hshape : ({ heap := w.heap.push (Obj.cells arr e), tape := w.tape, drawn := w.drawn + 1, os := w.os, output := w.output } : World).shape? w.heap.size = some (e, cap) := by
    simp only [World.shape?]
    rw [Array.getElem?_push, if_pos rfl]
    simp [hsz]
  simp only [arr] at hshape
  rw [hshape]
  simp only [run_freeze, Result.andThen_ok, Sem.run_pure, bytes_size]
  congr 1
  simp only [World.freeze, World.alloc]
  rw [if_neg (by omega)]
  congr 1
  apply Array.ext_getElem?
  intro i
  rw [Array.getElem?_modify, Array.getElem?_push, Array.getElem?_push]
  by_cases hi : i = w.heap.size
  · subst hi; simp [arr, bytes_size]
  · rw [if_neg hi, if_neg hi]
    split
    · rename_i h; exact absurd h.symm hi
    · rfl

theorem bytesOf_extract (l : List Nat) (a b : Nat) : (bytesOf l).extract a b = bytesOf ((l.drop a).take (b - a)) := by
  have hx : ∀ x y : ByteArray, x.data = y.data → x = y := fun x y h => by cases x; cases y; simp_all
  apply hx
  apply Array.toList_inj.1
  rw [ByteArray.data_extract]
  simp [bytesOf, List.map_take, List.map_drop]

theorem slS_ok {t : Nat} (hu : P.underlying t = some .string) {l : List Nat} {xv : Value} {lo hi : Option AV} {lv hv : Option Value} (hx : V g s w (.s l) xv) (hlo : VO g s w lo lv) (hhi : VO g s w hi hv) {a b : Nat}
    (h : bounds l.length lo hi = some (a, b)) : ∃ v, (Instr.sliceAt t xv lv hv none).run P w = .ok v w ∧ V g s w (.s ((l.drop a).take (b - a))) v := by
  simp only [V] at hx
  obtain ⟨rfl, hlt⟩ := hx
  obtain ⟨e1, e2, e3⟩ := run_bounds (P := P) (isS := false) (Nat.le_refl _) hlo hhi h
  rw [← bytes_size l] at e1
  refine ⟨.string ((bytesOf l).extract a b), ?_, ?_⟩
  · simp [Instr.sliceAt, Instr.slice, run_underlying hu, e1]
  · simp only [V]
    refine ⟨by rw [bytesOf_extract], fun n hn => hlt n (List.mem_of_mem_drop (List.mem_of_mem_take hn))⟩

/-! ### A text gone through -/
theorem siter_ok (hI : Inv CR g s w) {t : Nat} (hu : P.underlying t = some .string) {l : List Nat} {xv : Value} (hx : V g s w (.s l) xv) :
    ∃ v w', (Instr.range t xv).run P w = .ok v w' ∧ Good CR g s w (s.new (.siter l 0)) (.p s.nb 0) v w' := by
  simp only [V] at hx
  obtain ⟨rfl, hlt⟩ := hx
  have hL := Le.newBox hI (.siter l 0) (.stringIter (bytesOf l) 0)
  refine ⟨_, w.alloc (.stringIter (bytesOf l) 0), by simp [Instr.range, run_underlying hu, World.alloc_eq]; rfl, _, Inv.newBox hI _ _ ⟨heap_alloc_new w _, hlt⟩, hL, ?_, esc_new _ _⟩
  simp [V, St.new, G.newBox]

theorem esc_set {id : Nat} (hI : Inv CR g s w) {B : Box} (hid : id < s.nb) (hB : ∀ a, vals B a → ∃ B0, s.box? id = some B0 ∧ vals B0 a) : Esc s (s.setBox id B) := by
  refine ⟨Nat.le_refl _, fun nb _ _ jd B' hjd hB' x hx => ?_⟩
  rw [setBox_box? hI.lenB hid] at hB'
  by_cases hj : jd = id
  · subst hj; rw [if_pos rfl] at hB'; cases hB'
    exact .inr (hB x hx)
  · rw [if_neg hj] at hB'; exact .inr ⟨B', hB', hx⟩

theorem snext_ok (hI : Inv CR g s w) {id pos : Nat} {l : List Nat} {xv : Value} {ty : TypeId} (hx : V g s w (.p id 0) xv) (hb : s.box? id = some (.siter l pos)) {r : AV}
    (h : (match l[pos]? with
        | none => some (AV.tup [.b false], s)
        | some c =>
          if c < 128 then some (.tup [.b true, .i .i64 (Int.ofNat pos), .i .i32 (Int.ofNat c)], s.setBox id (.siter l (pos + 1)))
          else
            some (.tup [.b true, .i .i64 (Int.ofNat pos), .i .i32 (Utf8.decode ⟨(l.map UInt8.ofNat).toArray⟩ pos).1], s.setBox id (.siter l (pos + (Utf8.decode ⟨(l.map UInt8.ofNat).toArray⟩ pos).2)))) = some (r, s')) :
    ∃ v w', (Instr.next xv true ty).run P w = .ok v w' ∧ Good CR g s w s' r v w' := by
  simp only [V] at hx
  obtain ⟨hid, rfl⟩ := hx
  obtain ⟨h1, h2⟩ := hI.box id _ hb
  have hget : (getObj (g.bx id)).run P w = .ok (.stringIter (bytesOf l) pos) w := by simp [getObj, Sem.run, h1]
  have hset : ∀ p, (setObj (g.bx id) (.stringIter (bytesOf l) p)).run P w = .ok () { w with heap := w.heap.setIfInBounds (g.bx id) (.stringIter (bytesOf l) p) } := by intro p; simp [setObj, Sem.run, h1]
  have hInv : ∀ p, Inv CR g (s.setBox id (.siter l p)) { w with heap := w.heap.setIfInBounds (g.bx id) (.stringIter (bytesOf l) p) } ∧ Le g s w g (s.setBox id (.siter l p)) { w with heap := w.heap.setIfInBounds (g.bx id) (.stringIter (bytesOf l) p) } := by
    intro p
    have e1 : ({ w with heap := w.heap.setIfInBounds (g.bx id) (.stringIter (bytesOf l) p) } : World).heap.size = w.heap.size := by simp
    have e2 : ∀ b, b ≠ g.bx id → ({ w with heap := w.heap.setIfInBounds (g.bx id) (.stringIter (bytesOf l) p) } : World).heap[b]? = w.heap[b]? := fun b hb => by
      simp only [Array.getElem?_setIfInBounds]; rw [if_neg (Ne.symm hb)]
    have hnd : w.heap[g.bx id]? ≠ some (.deferred (some [])) := by rw [h1]; intro hh; cases hh
    exact ⟨Inv.setBox hI hb rfl _ e1 e2 hnd ⟨by simp only [Array.getElem?_setIfInBounds]; rw [if_pos trivial, if_pos (hI.lt id hid).2], h2⟩, Le.setBox hI hb rfl _ e1 e2 hnd⟩
  have hE : ∀ p, Esc s (s.setBox id (.siter l p)) := fun p => esc_set hI hid (fun a ha => absurd ha (by simp [vals]))
  cases hc : l[pos]? with
  | none =>
    simp only [hc] at h
    cases h
    have hge : ¬ pos < (bytesOf l).size := by rw [bytes_size]; intro hlt; rw [List.getElem?_eq_getElem hlt] at hc; cases hc
    refine ⟨_, _, by simp [Instr.next, hget, hge]; rfl, good_same hI ?_⟩
    simp [V, VL]
  | some c =>
    simp only [hc] at h
    have hlt : pos < (bytesOf l).size := by rw [bytes_size]; rcases List.getElem?_eq_some_iff.1 hc with ⟨h, _⟩; exact h
    have hc256 := h2 c (List.mem_of_getElem? hc)
    by_cases hascii : c < 128
    · rw [if_pos hascii] at h
      cases h
      have hat : ((bytesOf l).get! (pos + 0)).toNat = c := by
        have : (bytesOf l).get! (pos + 0) = UInt8.ofNat c := by
          rcases List.getElem?_eq_some_iff.1 hc with ⟨hl, rfl⟩
          simp [bytesOf, ByteArray.get!, hl]
        rw [this, UInt8.toNat_ofNat']; omega
      have hdec : Utf8.decode (bytesOf l) pos = (c, 1) := by
        unfold Utf8.decode
        simp only [hat]
        rw [if_pos hascii]
      refine ⟨_, _, by simp only [Instr.next, Sem.run_bind, hget, Result.andThen_ok]; rw [if_pos hlt]; simp only [hdec, Sem.run_bind, hset, Result.andThen_ok, Sem.run_pure]; rfl, g, (hInv (pos + 1)).1, (hInv (pos + 1)).2, ?_, hE _⟩
      simp [V, VL, goInt]
    · rw [if_neg hascii] at h
      cases h
      refine ⟨_, _, by simp only [Instr.next, Sem.run_bind, hget, Result.andThen_ok]; rw [if_pos hlt]; simp only [Sem.run_bind, hset, Result.andThen_ok, Sem.run_pure]; rfl, g, (hInv _).1, (hInv _).2, ?_, hE _⟩
      simp [V, VL, goInt, bytesOf]
end Go.Proofs.YtfaodjpibdhdjaaDoor.Am
