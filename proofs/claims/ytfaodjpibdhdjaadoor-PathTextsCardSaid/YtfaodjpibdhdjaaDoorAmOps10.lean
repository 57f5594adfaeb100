/-
  What a Builder of texts is made of: an address taken for an untyped one and back; a row of bytes taken for a text; new bytes; copies of nothing.
-/
import Derived.Test.YtfaodjpibdhdjaaDoorAmOps9
import Derived.Lib.Builder
import Derived.Lib.UnsafeStr
import Derived.Lib.MakeNoZero
set_option linter.all false
set_option linter.unusedVariables false
set_option linter.unusedSimpArgs false
set_option linter.unusedSectionVars false
set_option linter.constructorNameAsVariable false
namespace Go.Proofs.YtfaodjpibdhdjaaDoor.Am
variable {CR : Nat → Code → C → Prop} {P : Program} {g : G} {s s' : St} {w : World}

theorem box_shape (hI : Inv CR g s w) {id T : Nat} {l : List AV} (hb : s.box? id = some (.cells T l)) : w.shape? (g.bx id) = some (T, l.length) := by
  obtain ⟨arr, h1, h2⟩ := hI.box id _ hb
  have hl := h2.length
  simp only [World.shape?, h1]
  simp at hl
  rw [hl]

theorem size_info {t n : Nat} (hn : sizeT P t = some n) : ∃ j, P.info? t = some j ∧ j.size = n := by
  unfold sizeT at hn
  split at hn
  · rename_i i hi; cases hn; exact ⟨i, hi, rfl⟩
  · cases hn

theorem cvU_ok (hI : Inv CR g s w) {src dst t n : Nat} (hsd : (P.underlying src = some (.pointer t) ∧ P.underlying dst = some .unsafePointer) ∨ (P.underlying src = some .unsafePointer ∧ P.underlying dst = some (.pointer t)))
    (hn : sizeT P t = some (n + 1)) (hlies : liesAt P P.depth t 1 0 t 1 = true) (hc : P.cellsOf t = n + 1) {id : Nat} {l : List AV} (hb : s.box? id = some (.cells t l)) (hl : l.length = n + 1) {xv : Value} (hx : V g s w (.p id 0) xv) :
    (convert src dst xv).run P w = .ok xv w := by
  simp only [V] at hx
  obtain ⟨_, rfl⟩ := hx
  obtain ⟨j, hj, hjs⟩ := size_info hn
  have hsh := box_shape hI hb
  rcases hsd with ⟨h1, h2⟩ | ⟨h1, h2⟩
  · exact Lib.run_to_unsafe (P := P) w ⟨g.bx id, 0, none⟩ h1 h2 hj (by omega) hsh (by simp only; omega)
  · refine Lib.run_from_unsafe (P := P) w ⟨g.bx id, 0, none⟩ h1 h2 hj hsh ?_
    simp only
    rw [hl, hc, Nat.div_self (by omega)]
    exact hlies

theorem ud_ok {c : Array TypeId} {ty : TypeId} {x r : AV} {xv : Value} (hx : V g s w x xv) (h : udA s x = some (r, s')) : ∃ v, (Builtin.unsafeSliceData_ c ty #[xv]).run P w = .ok v w ∧ V g s w r v ∧ s' = s := by
  unfold udA at h
  split at h <;> try (cases h; done)
  · cases h
    simp only [V] at hx; subst hx
    exact ⟨_, rfl, by simp [V], rfl⟩
  · rename_i a l k v
    cases h
    simp only [V] at hx
    obtain ⟨b, o, cap, vs, rfl, h0, ha, hk, hv⟩ := hx
    refine ⟨_, Lib.run_unsafeSliceData_row (P := P) w c ty ⟨b, o, none⟩ _ cap (by have := h0.2; simp at this; omega), ?_, rfl⟩
    simp only [V]
    exact ⟨b, o, cap, vs, rfl, ⟨Nat.le_refl _, h0.2⟩, ha, hk, hv⟩

theorem cp0_ok {c : Array TypeId} {ty : TypeId} {t e n : Nat} (hc : c[0]? = some t) (hu : P.underlying t = some (.slice e)) (hn : sizeT P e = some n) {x y : AV} {xv yv : Value} (hx : V g s w x xv) (hy : V g s w y yv) {k k' : IntKind} {a b : Int}
    (ha : lenA s 1 x = some (.i k a)) (hb : lenA s 1 y = some (.i k' b)) (h0 : a = 0 ∨ b = 0) : (Builtin.copy_ c ty #[xv, yv]).run P w = .ok (.int .i64 0) w := by
  have hlen : ∀ {x : AV} {xv : Value} {k : IntKind} {a : Int}, V g s w x xv → lenA s 1 x = some (.i k a) → ∃ base len cap, xv = .slice base len cap ∧ a = Int.ofNat len := by
    intro x xv k a hx ha
    unfold lenA at ha
    split at ha <;> try (cases ha; done)
    · rename_i heq; cases heq
    · cases ha
      simp only [V] at hx
      exact ⟨_, _, _, hx, rfl⟩
    · cases ha
      simp only [V] at hx
      obtain ⟨_, rfl⟩ := hx
      exact ⟨_, _, _, rfl, rfl⟩
    · cases ha
      simp only [V] at hx
      obtain ⟨b, o, cap, vs, rfl, _⟩ := hx
      exact ⟨_, _, _, rfl, rfl⟩
    · cases ha
      simp only [V] at hx
      rcases hx with ⟨rfl, rfl⟩ | ⟨⟨_, rfl⟩, rfl⟩ | ⟨b, o, cap, vs, rfl, _⟩
      · exact ⟨_, _, _, rfl, rfl⟩
      · exact ⟨_, _, _, rfl, rfl⟩
      · exact ⟨_, _, _, rfl, rfl⟩
    · cases ha
      simp only [V] at hx
      obtain ⟨o, cap, rfl, _⟩ := hx
      exact ⟨_, _, _, rfl, rfl⟩
    · rename_i heq; cases heq
    · rename_i heq; cases heq
  obtain ⟨b1, l1, c1, rfl, rfl⟩ := hlen hx ha
  obtain ⟨b2, l2, c2, rfl, rfl⟩ := hlen hy hb
  have hmin : Nat.min l2 l1 = 0 := by
    rcases h0 with h0 | h0
    · have : l1 = 0 := by simpa using h0
      subst this; exact Nat.min_zero l2
    · have : l2 = 0 := by simpa using h0
      subst this; exact Nat.zero_min l1
  have e0 : (#[(.slice b1 l1 c1 : Value), .slice b2 l2 c2] : Array Value)[0]? = some (.slice b1 l1 c1) := rfl
  have e1 : (#[(.slice b1 l1 c1 : Value), .slice b2 l2 c2] : Array Value)[1]? = some (.slice b2 l2 c2) := rfl
  have hlo : (Builtin.lenOf (.slice b2 l2 c2)).run P w = .ok l2 w := by simp [Builtin.lenOf]
  simp only [Builtin.copy_, hc, e0, e1, Sem.run_bind, run_underlying hu, Result.andThen_ok, hlo, run_sizeOf hn, hmin]
  have hf : (Builtin.firstCells n 0 (.slice b2 l2 c2)).run P w = .ok #[] w := by
    cases b2 with
    | none => simp [Builtin.firstCells]
    | some a =>
      simp only [Builtin.firstCells, Nat.zero_mul]
      simp [loadCells, loadCellsFrom]
  rw [hf]
  cases b1 with
  | none => simp [goInt]
  | some a => simp [storeCells, goInt]

theorem digits_ints : ∀ (n t : Nat) (acc : Array Value), (∀ v ∈ acc.toList, ∃ k m, v = .int k m) → ∀ v ∈ (Extern.BytealgMakeNoZero.digits n t acc).toList, ∃ k m, v = .int k m
  | 0, _, _, h => h
  | n + 1, t, acc, h => by
    rw [Extern.BytealgMakeNoZero.digits]
    refine digits_ints n _ _ fun v hv => ?_
    simp only [Array.toList_push, List.mem_append, List.mem_singleton] at hv
    rcases hv with hv | rfl
    · exact h v hv
    · exact ⟨_, _, rfl⟩

theorem VL_any : ∀ {vs : List Value}, (∀ v ∈ vs, ∃ k m, v = .int k m) → VL g s w (List.replicate vs.length .any) vs
  | [], _ => by simp [VL]
  | v :: vs, h => by
    simp only [List.length_cons, List.replicate_succ, VL]
    exact ⟨v, vs, rfl, by simp only [V]; exact h v (by simp), VL_any fun u hu => h u (by simp [hu])⟩

theorem allLen_any : ∀ n : Nat, allLen 1 (List.replicate n .any) = true
  | 0 => rfl
  | n + 1 => by
    simp only [List.replicate_succ, allLen, AV.cells, List.length_cons, List.length_nil, allLen_any n]
    rfl

theorem flat_ints : ∀ {vs : List Value}, (∀ v ∈ vs, ∃ k m, v = .int k m) → flat vs = vs
  | [], _ => rfl
  | v :: vs, h => by
    obtain ⟨k, m, rfl⟩ := h v (by simp)
    rw [flat_cons, flat_ints fun u hu => h u (by simp [hu])]
    rfl

theorem mnz_ok (hI : Inv CR g s w) {t e : Nat} (ht : P.underlying t = some (.slice e)) (ps : Array TypeId) {n : Int} (h0 : 0 ≤ n) (h1 : n < 2 ^ 38) :
    ∃ v w', (Extern.BytealgMakeNoZero.makeNoZero ps #[t] #[.int .i64 n]).run P w = .ok v w' ∧ Good CR g s w (s.newTok n.toNat (some e)) (.sl 1 (List.replicate n.toNat .any) (.tok s.nt 0)) v w' := by
  obtain ⟨m, rfl⟩ := Int.eq_ofNat_of_zero_le h0
  have hm : m < 2 ^ 38 := by omega
  obtain ⟨q, hq, hdef⟩ : ∃ q : Question, Question.forced q = false ∧ Extern.BytealgMakeNoZero.makeNoZero ps #[t] #[.int .i64 m] =
      (do
        let .slice elem ← underlying t | stuck "bytealg.MakeNoZero: slice type expected"
        if (m : Int) < 0 || (m : Int) > 2 ^ 48 then runtimePanic (.error "makeslice: len out of range")
        let cap ← choose (.appendCap (m : Int).toNat 0 elem)
        askRoom cap
        let bytes ← choose q
        let a ← newRow elem (Extern.BytealgMakeNoZero.digits cap bytes #[])
        pure (.slice (some a) (m : Int).toNat cap)) := ⟨_, rfl, rfl⟩
  have hrun : ∃ (bytes dr : Nat), (Extern.BytealgMakeNoZero.makeNoZero ps #[t] #[.int .i64 m]).run P w = .ok (.slice (some ⟨w.heap.size, 0, none⟩) m (grownCap w m 0 e)) ({ w with drawn := dr }.alloc (.cells (Extern.BytealgMakeNoZero.digits (grownCap w m 0 e) bytes #[]) e)) := by
    have k1 : ¬ (m : Int) < 0 := by omega
    have k2 : ¬ (281474976710656 : Int) < (m : Int) := by omega
    refine ⟨q.cut (w.tape (w.drawn + 1) q), w.drawn + 1 + 1, ?_⟩
    rw [hdef]
    have ha : Question.forced (.appendCap (m : Int).toNat 0 e) = false := rfl
    simp [run_underlying ht, k1, k2, hq, ha, newRow, Lib.size_digits, grownCap]
    rfl
  obtain ⟨bytes, dr, hrun⟩ := hrun
  obtain ⟨cs, hcs⟩ : ∃ cs, cs = Extern.BytealgMakeNoZero.digits (grownCap w m 0 e) bytes #[] := ⟨_, rfl⟩
  have hints : ∀ v ∈ cs.toList, ∃ k q, v = .int k q := by rw [hcs]; exact digits_ints _ _ _ (by simp)
  have hsz : cs.size = grownCap w m 0 e := by rw [hcs, Lib.size_digits]; simp
  have hle : m ≤ cs.size := by rw [hsz]; exact grownCap_ge w m 0 e
  rw [← hcs, ← hsz] at hrun
  refine ⟨_, _, hrun, ?_⟩
  have hdr : Le g s w g s { w with drawn := dr } := Le.heap rfl
  have hIdr : Inv CR g s { w with drawn := dr } := Inv.heap (w := w) rfl hI
  have htake : ∀ v ∈ cs.toList.take m, ∃ k q, v = .int k q := fun v hv => hints v (List.mem_of_mem_take hv)
  have hlen : (cs.toList.take m).length = m := by rw [List.length_take, Array.length_toList]; omega
  have hV := VL_any (g := g) (s := s) (w := { w with drawn := dr }) htake
  rw [hlen] at hV
  have hg := newTok_good (CR := CR) hIdr (es := 1) (cap := cs.size) (Nat.le_refl 1) (allLen_any m) hV (arr := cs) e (rest := cs.toList.drop m) (by rw [flat_ints htake, List.take_append_drop]) (by simpa using hle) (by omega) (ty := some e) (fr := (0, 0)) (fun x _ => by simp only; omega) (fun T' hT => ⟨by cases hT; rfl, rfl⟩)
  simp only [List.length_replicate] at hg
  exact Good.from hdr (Esc.refl _) hg

/-! ### A row of bytes taken for a text -/
theorem heap_freeze_other (w : World) {a : Addr} {n b : Nat} (h : b ≠ a.block) : (w.freeze a n).heap[b]? = w.heap[b]? := by
  unfold World.freeze
  split
  · rfl
  · simp only [Array.getElem?_modify]
    rw [if_neg (Ne.symm h)]
theorem heap_freeze_same {w : World} {a : Addr} {n : Nat} (hn : n ≠ 0) {c : Array Value} {T : Nat} {lo hi : Nat} (h : w.heap[a.block]? = some (.cells c T (lo, hi))) :
    (w.freeze a n).heap[a.block]? = some (.cells c T (if lo == hi then (a.off, a.off + n) else (min lo a.off, max hi (a.off + n)))) := by
  unfold World.freeze
  rw [if_neg hn]
  simp only [Array.getElem?_modify, if_pos, h, Option.map_some]
theorem cell?_freeze (w : World) (a : Addr) (n : Nat) (x : Addr) : (w.freeze a n).cell? x = w.cell? x := by
  by_cases hb : x.block = a.block
  · by_cases hn : n = 0
    · unfold World.freeze; rw [if_pos hn]
    · cases h : w.heap[a.block]? with
      | none =>
        have : (w.freeze a n).heap[a.block]? = none := by
          unfold World.freeze
          rw [if_neg hn]
          simp [Array.getElem?_modify, h]
        simp only [World.cell?, hb, h, this]
      | some o =>
        cases o with
        | cells c T fr =>
          obtain ⟨lo, hi⟩ := fr
          simp only [World.cell?, hb, heap_freeze_same hn h, h]
        | _ =>
          have : (w.freeze a n).heap[a.block]? = w.heap[a.block]? := by
            unfold World.freeze
            rw [if_neg hn]
            simp [Array.getElem?_modify, h]
          simp only [World.cell?, hb, this, h]
  · simp only [World.cell?, heap_freeze_other w hb]
theorem size_freeze (w : World) (a : Addr) (n : Nat) : (w.freeze a n).heap.size = w.heap.size := by
  unfold World.freeze
  split <;> simp

section froze
variable {k : Nat} {t : Tok} (hI : Inv CR g s w) (ht : s.tok? k = some t) {n : Nat} (hn : n ≤ t.front) (hes : (g.tk k).es = 1) (hn0 : n ≠ 0) {T0 : Nat} (hty : t.ty = some T0)
include hI ht hn hes hn0 hty

theorem Le.froze : Le g s w g (s.setTok k ⟨t.front, t.ver, t.front, t.ty⟩) (w.freeze ⟨(g.tk k).blk, 0, none⟩ n) := by
  have hL := Le.pop (n := t.front) hI ht
  have hblk := (hI.tok k t ht).base
  have hother : ∀ b, b ≠ (g.tk k).blk → (w.freeze ⟨(g.tk k).blk, 0, none⟩ n).heap[b]? = w.heap[b]? := fun b hb => heap_freeze_other w hb
  obtain ⟨arr, T, fr, r1, _, _⟩ := (hI.tok k t ht).row
  exact {
    own := fun _ _ h => h
    frame := fun b _ ho => ⟨hother b fun he => ho (.inr ⟨k, tok?_lt ht, he.symm⟩), rfl⟩
    base := rfl
    size := by rw [size_freeze]; exact Nat.le_refl _
    low := fun b hb => hother b (by omega)
    prot := fun _ => Nat.le_refl _
    cell := fun b off v _ hc => by rw [cell?_freeze]; exact hc
    dfr := fun b hb => by
      rw [hother b (fun h => by subst h; rw [r1] at hb; cases hb)]; exact hb
    nb := Nat.le_refl _
    bx := fun _ _ => rfl
    nt := Nat.le_refl _
    has := fun j v t' hk h => by
      rw [setTok_tok? hI.lenT (tok?_lt ht)] at h
      by_cases hj : j = k
      · subst hj; rw [if_pos rfl] at h; cases h
        have := hk.2 t ht; simp only; omega
      · rw [if_neg hj] at h; exact hk.2 _ h
    ok := fun j v hk h => by
      rw [ok_iff] at h ⊢
      obtain ⟨t', h, hv⟩ := h
      rw [setTok_tok? hI.lenT (tok?_lt ht)] at h
      by_cases hj : j = k
      · subst hj; rw [if_pos rfl] at h; cases h
        exact ⟨t, ht, hv⟩
      · rw [if_neg hj] at h; exact ⟨t', h, hv⟩
    tok := fun j t1 t' hj h1 h' hv => by
      refine ⟨fun off x _ hc => by rw [cell?_freeze]; exact hc, .inl ⟨rfl, ?_⟩⟩
      rw [setTok_tok? hI.lenT (tok?_lt ht)] at h'
      by_cases hjk : j = k
      · subst hjk; rw [if_pos rfl] at h'; cases h'
        obtain rfl := Option.some.inj (ht.symm.trans h1)
        exact Nat.le_refl _
      · rw [if_neg hjk, h1] at h'; cases h'; exact Nat.le_refl _
    io := by unfold World.freeze; rw [if_neg hn0]; exact ⟨rfl, rfl⟩ }

theorem Inv.froze : Inv CR g (s.setTok k ⟨t.front, t.ver, t.front, t.ty⟩) (w.freeze ⟨(g.tk k).blk, 0, none⟩ n) := by
  have hL := Le.froze hI ht hn hes hn0 hty
  have hother : ∀ b, b ≠ (g.tk k).blk → (w.freeze ⟨(g.tk k).blk, 0, none⟩ n).heap[b]? = w.heap[b]? := fun b hb => heap_freeze_other w hb
  exact {
    lenB := hI.lenB
    lenT := by simp [St.setTok, hI.lenT]
    base := by rw [size_freeze]; exact hI.base
    fresh := by rw [size_freeze]; exact hI.fresh
    lt := by rw [size_freeze]; exact hI.lt
    pr := hI.pr
    box := fun id b hb => by
      cases hl : b.live with
      | false => cases b <;> simp [Box.live] at hl; trivial
      | true => exact (hI.box id b hb).mono hL (hother _ (hI.btk id b k t hb hl ht))
    inj := hI.inj
    tlt := by rw [size_freeze]; exact tlt_set hI ht
    tok := fun j t' h => by
      rw [setTok_tok? hI.lenT (tok?_lt ht)] at h
      by_cases hj : j = k
      · subst hj; rw [if_pos rfl] at h; cases h
        have h0 := hI.tok j t ht
        obtain ⟨arr, T, fr, r1, r2, r3, r4⟩ := h0.row
        obtain ⟨lo, hi⟩ := fr
        obtain ⟨r5, r6⟩ := r4 T0 hty
        have hp := h0.prot
        have hpub := h0.pub
        refine { base := h0.base, es := h0.es, prot := ?_, pub := Nat.le_refl _, cap := h0.cap, row := ⟨arr, T, _, heap_freeze_same hn0 r1, r2, fun x hx hx2 => ?_, fun T' hT => ⟨(r4 T' hT).1, ?_⟩⟩ }
        · have := Nat.mul_le_mul_right (g.tk j).es hpub
          simp only; omega
        · rw [hes] at hx r6
          simp only at hx r6 ⊢
          split <;> simp only <;> omega
        · rw [hes] at r6 ⊢
          simp only at r6 ⊢
          split <;> simp only <;> omega
      · rw [if_neg hj] at h
        exact (hI.tok j t' h).heap (hother _ (fun he => hj (hI.tinj j k _ _ h ht he)))
    tall := by rw [size_freeze]; exact hI.tall
    tinj := tinj_set hI ht
    btk := btk_set hI ht }
end froze

theorem us_ok (hI : Inv CR g s w) {pt it ty e : Nat} (hp : P.underlying pt = some (.pointer e)) (hc : P.cellsOf e = 1) {x n r : AV} {xv nv : Value} (hx : V g s w x xv) (hnv : V g s w n nv) (h : usA s e x n = some (r, s')) :
    ∃ v w', (Builtin.unsafeString_ #[pt, it] ty #[xv, nv]).run P w = .ok v w' ∧ Good CR g s w s' r v w' := by
  unfold usA at h
  split at h <;> try (cases h; done)
  · split at h <;> try (cases h; done)
    rename_i hn
    subst hn
    cases h
    simp only [V] at hx hnv
    subst hx; subst hnv
    refine ⟨_, w, Lib.run_unsafeString_none (P := P) w pt it ty none, good_same hI ?_⟩
    simp only [V]
    exact ⟨rfl, by simp⟩
  · rename_i l k u n
    split at h <;> try (cases h; done)
    rename_i t bs ht hbs
    split at h <;> try (cases h; done)
    rename_i hcond
    obtain ⟨hver, hty, hfront, hn, hl1, hl2⟩ := hcond
    cases h
    subst hn
    simp only [V] at hx hnv
    subst hnv
    obtain ⟨b, o, cap, vs, rfl, h0, ha, hk, hv⟩ := hx
    obtain ⟨k1, k2, k3, k4⟩ := hv (ok_iff.2 ⟨t, ht, hver⟩)
    obtain ⟨c0, ces, ccap, ctok⟩ := k4
    obtain ⟨cle, ceq⟩ := ctok t ht
    have htk := ceq hfront
    obtain ⟨arr, T, fr, r1, r2, r3, r4⟩ := (hI.tok k t ht).row
    rw [htk] at r1 r2
    have hTe := (r4 e hty).1
    simp only at r1 r2
    obtain ⟨q1, q2, q3⟩ := bytesL_ok k1 hbs
    have hfl : flat vs = vs := by rw [q1, flat_bytes]
    rw [hfl, q1] at k2
    subst c0
    have hsh : w.shape? b = some (e, arr.size) := by simp only [World.shape?, r1, hTe]
    have hblen : (bs.map UInt8.ofNat).length = l.length := by simp [q3]
    have hrun := Lib.run_unsafeString_row (P := P) w pt it ty e hp hc b arr.size hsh (bs.map UInt8.ofNat) (by intro hh; have := congrArg List.length hh; rw [hblen, List.length_nil] at this; omega) (by rw [hblen]; simp only [Nat.mul_one] at r2; have := h0.2; omega) (by rw [hblen]; omega)
      (fun j x hj => by
        rw [List.getElem?_map, Option.map_eq_some_iff] at hj
        obtain ⟨y, hy, rfl⟩ := hj
        have := k2 j (.int .u8 (Int.ofNat y)) (by rw [List.getElem?_map, hy]; rfl)
        have hlt := q2 y (List.mem_of_getElem? hy)
        rw [addr_add, this, show (UInt8.ofNat y).toNat = y by rw [UInt8.toNat_ofNat']; omega]
        rfl)
    rw [hblen] at hrun
    have hblk : (⟨b, 0, none⟩ : Addr) = ⟨(g.tk k).blk, 0, none⟩ := by rw [htk]
    have hes1 : (g.tk k).es = 1 := by rw [htk]
    refine ⟨_, _, hrun, ?_⟩
    rw [hblk]
    refine ⟨g, Inv.froze hI ht (by omega) hes1 (by omega) hty, Le.froze hI ht (by omega) hes1 (by omega) hty, ?_, Esc.tok _ _ rfl rfl rfl⟩
    simp only [V]
    exact ⟨rfl, q2⟩
end Go.Proofs.YtfaodjpibdhdjaaDoor.Am
