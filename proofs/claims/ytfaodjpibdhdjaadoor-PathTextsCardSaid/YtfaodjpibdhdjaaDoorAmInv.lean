/-
  The invariant that ties a state of the abstract machine to a world of the model, and each change that keeps it.
-/
import Derived.Test.YtfaodjpibdhdjaaDoorAmRel
import Derived.RangeFuncIn
set_option linter.all false
set_option linter.unusedVariables false
set_option linter.unusedSimpArgs false
set_option linter.unusedSectionVars false
set_option linter.constructorNameAsVariable false
namespace Go.Proofs.YtfaodjpibdhdjaaDoor.Am

def VM (g : G) (s : St) (w : World) : List (AV × AV) → List MapEntry → Prop
  | [], es => es = []
  | x :: l, es => ∃ e r, es = e :: r ∧ V g s w x.1 e.key ∧ V g s w x.2 e.val ∧ VM g s w l r

def VT (g : G) (s : St) (w : World) (e : Tr) (tmps : Array Value) : Prop := tmps.size < 1023 ∧ ∀ t, V g s w (e.get t) (tmps.getD t Go.undef)

def PR : Option C → Option Code → Prop
  | none, none => True
  | some (.exit i), some (.exit j) => i = j
  | some .ret, some .ret => True
  | _, _ => False

def LS : Nat → LoopState → Prop
  | 0, .ready => True
  | 1, .busy => True
  | 2, .done => True
  | _, _ => False

variable (CR : Nat → Code → C → Prop)

def BoxOk (g : G) (s : St) (w : World) (b : Nat) : Box → Prop
  | .cells T l => ∃ arr, w.heap[b]? = some (.cells arr T (0, 0)) ∧ VL g s w l arr.toList
  | .map es => ∃ ents clock, w.heap[b]? = some (.map ents clock) ∧ VM g s w es ents.toList
  | .loop st pend tm ps x y => ∃ L : Loop, w.heap[b]? = some (.loop L) ∧ LS st L.state ∧ PR pend L.pending ∧ VT g s w tm L.tmps ∧ (L.params.toList = ps ∧ ∀ p ∈ ps, p < L.tmps.size) ∧ CR L.tmps.size L.assign x ∧ CR L.tmps.size L.body y
  | .siter l pos => w.heap[b]? = some (.stringIter (bytesOf l) pos) ∧ ∀ n ∈ l, n < 256
  | .row T l fz rm => ∃ arr fr, w.heap[b]? = some (.cells arr T fr) ∧ (fz = false → fr.2 = 0) ∧ ∃ vs rest, arr.toList = vs ++ rest ∧ VL g s w l vs ∧ rm ≤ arr.size
  | .used => True

structure TokOk (g : G) (w : World) (L : Loc) (t : Tok) : Prop where
  base : g.base ≤ L.blk
  es : 1 ≤ L.es
  prot : g.prot L.blk ≤ t.pub * L.es
  pub : t.pub ≤ t.front
  cap : t.front ≤ L.cap
  row : ∃ arr T fr, w.heap[L.blk]? = some (.cells arr T fr) ∧ L.cap * L.es ≤ arr.size ∧ (∀ x, t.pub * L.es ≤ x → x < L.cap * L.es → ¬ (fr.1 ≤ x ∧ x < fr.2)) ∧ ∀ T', t.ty = some T' → T = T' ∧ fr.2 ≤ t.pub * L.es

structure Inv (g : G) (s : St) (w : World) : Prop where
  lenB : s.boxes.length = s.nb
  lenT : s.toks.length = s.nt
  base : g.base ≤ w.heap.size
  fresh : ∀ b, w.heap.size ≤ b → g.prot b = 0
  lt : ∀ id, id < s.nb → g.base ≤ g.bx id ∧ g.bx id < w.heap.size
  pr : ∀ id B, s.box? id = some B → B.frz = false → g.prot (g.bx id) = 0
  box : ∀ id B, s.box? id = some B → BoxOk CR g s w (g.bx id) B
  inj : ∀ i j A B, s.box? i = some A → s.box? j = some B → A.live = true → B.live = true → g.bx i = g.bx j → i = j
  tlt : ∀ k t, s.tok? k = some t → (g.tk k).blk < w.heap.size
  tall : ∀ k, k < s.nt → (g.tk k).blk < w.heap.size
  tok : ∀ k t, s.tok? k = some t → TokOk g w (g.tk k) t
  tinj : ∀ i j t u, s.tok? i = some t → s.tok? j = some u → (g.tk i).blk = (g.tk j).blk → i = j
  btk : ∀ i B k t, s.box? i = some B → B.live = true → s.tok? k = some t → g.bx i ≠ (g.tk k).blk

variable {CR}

theorem VM_mono0 {g g' : G} {s s' : St} {w w' : World} (h : Le0 g s w g' s' w') : ∀ (l : List (AV × AV)) (es : List MapEntry), VM g s w l es → VM g' s' w' l es
  | [], _, hv => hv
  | _ :: l, _, ⟨e, r, he, h1, h2, h3⟩ => ⟨e, r, he, V_mono0 h _ _ h1, V_mono0 h _ _ h2, VM_mono0 h l r h3⟩

theorem VT_mono0 {g g' : G} {s s' : St} {w w' : World} (h : Le0 g s w g' s' w') {e : Tr} {tmps : Array Value} (hv : VT g s w e tmps) : VT g' s' w' e tmps :=
  ⟨hv.1, fun t => V_mono0 h _ _ (hv.2 t)⟩

/-- A box's content stays, if its object stays. -/
theorem BoxOk.mono0 {g g' : G} {s s' : St} {w w' : World} (h : Le0 g s w g' s' w') {b : Nat} {B : Box} (ho : w'.heap[b]? = w.heap[b]?) (hb : BoxOk CR g s w b B) : BoxOk CR g' s' w' b B := by
  cases B with
  | cells T l => obtain ⟨arr, h1, h2⟩ := hb; exact ⟨arr, by rw [ho]; exact h1, VL_mono0 h _ _ h2⟩
  | map es => obtain ⟨ents, c, h1, h2⟩ := hb; exact ⟨ents, c, by rw [ho]; exact h1, VM_mono0 h _ _ h2⟩
  | loop st pend tm ps x y =>
    obtain ⟨L, h1, h2, h3, h4, h5⟩ := hb
    exact ⟨L, by rw [ho]; exact h1, h2, h3, VT_mono0 h h4, h5⟩
  | siter l pos => exact ⟨by rw [ho]; exact hb.1, hb.2⟩
  | row T l fz rm => obtain ⟨arr, fr, h1, h2, vs, rest, h3, h4, h5⟩ := hb; exact ⟨arr, fr, by rw [ho]; exact h1, h2, vs, rest, h3, VL_mono0 h _ _ h4, h5⟩
  | used => trivial

theorem VM_mono {g g' : G} {s s' : St} {w w' : World} (h : Le g s w g' s' w') (l : List (AV × AV)) (es : List MapEntry) (hv : VM g s w l es) : VM g' s' w' l es := VM_mono0 h.toLe0 l es hv
theorem VT_mono {g g' : G} {s s' : St} {w w' : World} (h : Le g s w g' s' w') {e : Tr} {tmps : Array Value} (hv : VT g s w e tmps) : VT g' s' w' e tmps := VT_mono0 h.toLe0 hv
theorem BoxOk.mono {g g' : G} {s s' : St} {w w' : World} (h : Le g s w g' s' w') {b : Nat} {B : Box} (ho : w'.heap[b]? = w.heap[b]?) (hb : BoxOk CR g s w b B) : BoxOk CR g' s' w' b B := hb.mono0 h.toLe0 ho

/-! ### Looking boxes and rows up -/

theorem box?_lt {s : St} {id : Nat} {B : Box} (h : s.box? id = some B) : id < s.nb := by
  unfold St.box? at h
  cases hb : Nat.blt id s.nb with
  | true => exact by simpa [Nat.blt_eq] using hb
  | false => simp [hb] at h
theorem tok?_lt {s : St} {k : Nat} {t : Tok} (h : s.tok? k = some t) : k < s.nt := by
  unfold St.tok? at h
  cases hb : Nat.blt k s.nt with
  | true => exact by simpa [Nat.blt_eq] using hb
  | false => simp [hb] at h

theorem box?_eq {s : St} {id : Nat} (h : id < s.nb) : s.box? id = s.boxes[s.nb - 1 - id]? := by
  unfold St.box?
  rw [show Nat.blt id s.nb = true by simpa [Nat.blt_eq] using h]; rfl
theorem box?_none {s : St} {id : Nat} (h : ¬ id < s.nb) : s.box? id = none := by
  unfold St.box?
  rw [show Nat.blt id s.nb = false by
    cases hb : Nat.blt id s.nb with
    | false => rfl
    | true => exact absurd (by simpa [Nat.blt_eq] using hb) h]; rfl
theorem tok?_eq {s : St} {k : Nat} (h : k < s.nt) : s.tok? k = (s.toks[s.nt - 1 - k]?).join := by
  unfold St.tok?
  rw [show Nat.blt k s.nt = true by simpa [Nat.blt_eq] using h]; rfl
theorem tok?_none {s : St} {k : Nat} (h : ¬ k < s.nt) : s.tok? k = none := by
  unfold St.tok?
  rw [show Nat.blt k s.nt = false by
    cases hb : Nat.blt k s.nt with
    | false => rfl
    | true => exact absurd (by simpa [Nat.blt_eq] using hb) h]; rfl

theorem new_box? {s : St} {B : Box} (id : Nat) : (s.new B).box? id = if id = s.nb then some B else s.box? id := by
  by_cases h : id = s.nb
  · subst h
    rw [if_pos rfl, box?_eq (by simp [St.new])]
    simp [St.new]
  · rw [if_neg h]
    by_cases hlt : id < s.nb
    · rw [box?_eq (s := s.new B) (by simp [St.new]; omega), box?_eq hlt]
      simp only [St.new]
      rw [show s.nb + 1 - 1 - id = (s.nb - 1 - id) + 1 by omega]; rfl
    · rw [box?_none hlt, box?_none (by simp [St.new]; omega)]

theorem setBox_box? {s : St} {B : Box} {j : Nat} (hl : s.boxes.length = s.nb) (hj : j < s.nb) (id : Nat) : (s.setBox j B).box? id = if id = j then some B else s.box? id := by
  by_cases hlt : id < s.nb
  · rw [box?_eq (s := s.setBox j B) (by simpa [St.setBox] using hlt), box?_eq hlt]
    simp only [St.setBox, List.getElem?_set]
    by_cases h : id = j
    · subst h; rw [if_pos rfl, if_pos rfl, if_pos (by rw [hl]; omega)]
    · rw [if_neg (by omega), if_neg h]
  · rw [box?_none hlt, box?_none (by simpa [St.setBox] using hlt), if_neg (by omega)]

theorem newTok_tok? {s : St} {n : Nat} {T : Option Nat} (k : Nat) : (s.newTok n T).tok? k = if k = s.nt then some ⟨n, 0, 0, T⟩ else s.tok? k := by
  by_cases h : k = s.nt
  · subst h
    rw [if_pos rfl, tok?_eq (by simp [St.newTok])]
    simp [St.newTok]
  · rw [if_neg h]
    by_cases hlt : k < s.nt
    · rw [tok?_eq (s := s.newTok n T) (by simp [St.newTok]; omega), tok?_eq hlt]
      simp only [St.newTok]
      rw [show s.nt + 1 - 1 - k = (s.nt - 1 - k) + 1 by omega]; rfl
    · rw [tok?_none hlt, tok?_none (by simp [St.newTok]; omega)]

theorem setTok_tok? {s : St} {t : Tok} {j : Nat} (hl : s.toks.length = s.nt) (hj : j < s.nt) (k : Nat) : (s.setTok j t).tok? k = if k = j then some t else s.tok? k := by
  by_cases hlt : k < s.nt
  · rw [tok?_eq (s := s.setTok j t) (by simpa [St.setTok] using hlt), tok?_eq hlt]
    simp only [St.setTok, List.getElem?_set]
    by_cases h : k = j
    · subst h; rw [if_pos rfl, if_pos rfl, if_pos (by rw [hl]; omega)]; rfl
    · rw [if_neg (by omega), if_neg h]
  · rw [tok?_none hlt, tok?_none (by simpa [St.setTok] using hlt), if_neg (by omega)]

theorem killTok_tok? {s : St} {j : Nat} (hl : s.toks.length = s.nt) (hj : j < s.nt) (k : Nat) : (s.killTok j).tok? k = if k = j then none else s.tok? k := by
  by_cases hlt : k < s.nt
  · rw [tok?_eq (s := s.killTok j) (by simpa [St.killTok] using hlt), tok?_eq hlt]
    simp only [St.killTok, List.getElem?_set]
    by_cases h : k = j
    · subst h; rw [if_pos rfl, if_pos rfl, if_pos (by rw [hl]; omega)]; rfl
    · rw [if_neg (by omega), if_neg h]
  · rw [tok?_none hlt, tok?_none (by simpa [St.killTok] using hlt), if_neg (by omega)]

theorem new_tok? {s : St} {B : Box} (k : Nat) : (s.new B).tok? k = s.tok? k := rfl
theorem setBox_tok? {s : St} {B : Box} {j : Nat} (k : Nat) : (s.setBox j B).tok? k = s.tok? k := rfl
theorem newTok_box? {s : St} {n : Nat} {T : Option Nat} (id : Nat) : (s.newTok n T).box? id = s.box? id := rfl
theorem setTok_box? {s : St} {t : Tok} {j : Nat} (id : Nat) : (s.setTok j t).box? id = s.box? id := rfl
theorem lo_box? {s : St} {n : Nat} (id : Nat) : ({ s with lo := n } : St).box? id = s.box? id := rfl
theorem lo_tok? {s : St} {n : Nat} (k : Nat) : ({ s with lo := n } : St).tok? k = s.tok? k := rfl

theorem ok_of_tok? {s s' : St} (h : ∀ k, s'.tok? k = s.tok? k) (m : Cap) : s'.ok m = s.ok m := by
  cases m <;> simp [St.ok, h]

/-- Where rows are as they were, and the world's cells are. -/
theorem tokLe_same {g : G} {s s' : St} {w w' : World} (h : ∀ k, s'.tok? k = s.tok? k)
    (hc : ∀ k t off x, s.tok? k = some t → off < t.front * (g.tk k).es → w.cell? ⟨(g.tk k).blk, off, none⟩ = some x → w'.cell? ⟨(g.tk k).blk, off, none⟩ = some x) {g' : G} (hg : ∀ k, k < s.nt → g'.tk k = g.tk k) :
    ∀ k t t', k < s.nt → s.tok? k = some t → s'.tok? k = some t' → t'.ver = t.ver →
    (∀ off x, off < t.front * (g.tk k).es → w.cell? ⟨(g.tk k).blk, off, none⟩ = some x → w'.cell? ⟨(g.tk k).blk, off, none⟩ = some x) ∧
    ((g'.tk k = g.tk k ∧ t.front ≤ t'.front) ∨ (safe g' (g.tk k).blk (t.front * (g.tk k).es) ∧ t.front < t'.front ∧ (g'.tk k).es = (g.tk k).es)) := by
  intro k t t' hk ht ht' _
  rw [h k, ht] at ht'
  obtain rfl := Option.some.inj ht'
  exact ⟨fun off x => hc k t off x ht, .inl ⟨hg k hk, Nat.le_refl _⟩⟩

/-! ### A world with the same memory -/
theorem cell?_heap {w w' : World} (h : w'.heap = w.heap) (a : Addr) : w'.cell? a = w.cell? a := by simp [World.cell?, h]
theorem frozen?_heap {w w' : World} (h : w'.heap = w.heap) (a : Addr) : w'.frozen? a = w.frozen? a := by simp [World.frozen?, h]

theorem Le.heap {g : G} {s : St} {w w' : World} (h : w'.heap = w.heap) (hio : w'.os = w.os ∧ w'.output = w.output := by exact ⟨rfl, rfl⟩) : Le g s w g s w' where
  io := hio
  own := fun _ _ h => h
  frame := fun _ _ _ => ⟨by rw [h], rfl⟩
  base := rfl
  size := by rw [h]; exact Nat.le_refl _
  low := fun _ _ => by rw [h]
  prot := fun _ => Nat.le_refl _
  cell := fun _ _ _ _ hc => by rw [cell?_heap h]; exact hc
  dfr := fun _ hb => by rw [h]; exact hb
  nb := Nat.le_refl _
  bx := fun _ _ => rfl
  nt := Nat.le_refl _
  has := fun _ _ _ hk h => hk.2 _ h
  ok := fun _ _ _ h => h
  tok := tokLe_same (fun _ => rfl) (fun _ _ _ _ _ _ hc => by rw [cell?_heap h]; exact hc) (fun _ _ => rfl)

theorem TokOk.heap {g : G} {w w' : World} {L : Loc} {t : Tok} (h : w'.heap[L.blk]? = w.heap[L.blk]?) (ht : TokOk g w L t) : TokOk g w' L t :=
  { ht with row := by rw [h]; exact ht.row }

theorem Inv.heap {g : G} {s : St} {w w' : World} (h : w'.heap = w.heap) (hI : Inv CR g s w) (hio : w'.os = w.os ∧ w'.output = w.output := by exact ⟨rfl, rfl⟩) : Inv CR g s w' where
  lenB := hI.lenB
  lenT := hI.lenT
  base := by rw [h]; exact hI.base
  fresh := by rw [h]; exact hI.fresh
  lt := by rw [h]; exact hI.lt
  pr := hI.pr
  box := fun id B hb => (hI.box id B hb).mono (Le.heap h hio) (by rw [h])
  inj := hI.inj
  tlt := by rw [h]; exact hI.tlt
  tok := fun k t ht => (hI.tok k t ht).heap (by rw [h])
  tall := by rw [h]; exact hI.tall
  tinj := hI.tinj
  btk := hI.btk

/-! ### The field lo alone -/
theorem Le.lo {g : G} {s : St} {w : World} (n : Nat) : Le g s w g { s with lo := n } w :=
  { Le.refl g s w with }
theorem Inv.lo {g : G} {s : St} {w : World} (n : Nat) (hI : Inv CR g s w) : Inv CR g { s with lo := n } w :=
  { hI with box := fun id B hb => (hI.box id B hb).mono (Le.lo n) rfl }

/-! ### New memory -/
section new
variable {g : G} {s : St} {w : World}

theorem heap_alloc_old (w : World) (o : Obj) {b : Nat} (h : b < w.heap.size) : (w.alloc o).heap[b]? = w.heap[b]? := by
  show (w.heap.push o)[b]? = _
  rw [Array.getElem?_push, if_neg (Nat.ne_of_lt h)]
theorem heap_alloc_new (w : World) (o : Obj) : (w.alloc o).heap[w.heap.size]? = some o := by
  show (w.heap.push o)[w.heap.size]? = _
  rw [Array.getElem?_push, if_pos rfl]
theorem cell?_alloc_some {o : Obj} {a : Addr} {v : Value} (h : w.cell? a = some v) : (w.alloc o).cell? a = some v := by
  rw [World.cell?_alloc_lt _ _ _ (World.block_lt_of_cell? _ _ h)]; exact h

theorem heap_alloc_some {o o' : Obj} {b : Nat} (h : w.heap[b]? = some o') : (w.alloc o).heap[b]? = some o' := by
  rw [heap_alloc_old w o (Array.getElem?_eq_some_iff.1 h).1]; exact h

def G.newBox (g : G) (s : St) (w : World) : G := { g with bx := fun id => if id = s.nb then w.heap.size else g.bx id }

theorem Le.newBox (hI : Inv CR g s w) (B : Box) (o : Obj) : Le g s w (g.newBox s w) (s.new B) (w.alloc o) where
  io := ⟨rfl, rfl⟩
  own := fun b hb ho => by
    rcases ho with ⟨id, hid, he⟩ | ho
    · by_cases h : id = s.nb
      · subst h; simp [G.newBox] at he; omega
      · exact .inl ⟨id, by simp [St.new] at hid; omega, by simpa [G.newBox, h] using he⟩
    · exact .inr ho
  frame := fun b hb _ => ⟨heap_alloc_old w o hb, rfl⟩
  base := rfl
  size := by simp
  low := fun b hb => heap_alloc_old w o (Nat.lt_of_lt_of_le hb hI.base)
  prot := fun _ => Nat.le_refl _
  cell := fun _ _ _ _ hc => cell?_alloc_some hc
  dfr := fun _ hb => heap_alloc_some hb
  nb := by simp [St.new]
  bx := fun id hid => by simp [G.newBox, Nat.ne_of_lt hid]
  nt := Nat.le_refl _
  has := fun _ _ _ hk h => hk.2 _ h
  ok := fun _ _ _ h => h
  tok := tokLe_same (fun _ => rfl) (fun _ _ _ _ _ _ hc => cell?_alloc_some hc) (fun _ _ => rfl)

theorem Inv.newBox (hI : Inv CR g s w) (B : Box) (o : Obj) (hB : BoxOk CR (g.newBox s w) (s.new B) (w.alloc o) w.heap.size B) : Inv CR (g.newBox s w) (s.new B) (w.alloc o) where
  lenB := by simp [St.new, hI.lenB]
  lenT := hI.lenT
  base := by have := hI.base; simp [G.newBox]; omega
  fresh := fun b hb => hI.fresh b (by simp at hb; omega)
  lt := fun id hid => by
    by_cases h : id = s.nb
    · subst h; simp [G.newBox]; exact hI.base
    · have hlt : id < s.nb := by simp [St.new] at hid; omega
      obtain ⟨h1, h2⟩ := hI.lt id hlt
      simp [G.newBox, h]; exact ⟨h1, by omega⟩
  pr := fun id b hb hf => by
    rw [new_box?] at hb
    by_cases h : id = s.nb
    · subst h; simp only [G.newBox, if_pos]; exact hI.fresh _ (Nat.le_refl _)
    · rw [if_neg h] at hb
      simp only [G.newBox, if_neg h]; exact hI.pr id b hb hf
  box := fun id b hb => by
    rw [new_box?] at hb
    by_cases h : id = s.nb
    · subst h; rw [if_pos rfl] at hb; cases hb
      simpa [G.newBox] using hB
    · rw [if_neg h] at hb
      have hlt := box?_lt hb
      rw [show (g.newBox s w).bx id = g.bx id by simp [G.newBox, h]]
      exact (hI.box id b hb).mono (Le.newBox hI B o) (heap_alloc_old w o (hI.lt id hlt).2)
  inj := fun i j A B hA hB la lb h => by
    rw [new_box?] at hA hB
    simp only [G.newBox] at h
    by_cases h1 : i = s.nb <;> by_cases h2 : j = s.nb
    · omega
    · rw [if_pos h1, if_neg h2] at h
      rw [if_neg h2] at hB
      have := (hI.lt j (box?_lt hB)).2; omega
    · rw [if_neg h1, if_pos h2] at h
      rw [if_neg h1] at hA
      have := (hI.lt i (box?_lt hA)).2; omega
    · rw [if_neg h1, if_neg h2] at h
      rw [if_neg h1] at hA; rw [if_neg h2] at hB
      exact hI.inj i j A B hA hB la lb h
  tlt := fun k t hk => by have := hI.tlt k t hk; simp [G.newBox]; omega
  tok := fun k t ht => by
    have := hI.tok k t ht
    exact TokOk.heap (g := g.newBox s w) (heap_alloc_old w o (hI.tlt k t ht)) { this with }
  tall := fun k hk => by have := hI.tall k hk; simp [G.newBox]; omega
  tinj := hI.tinj
  btk := fun i B k t hB lb hk h => by
    rw [new_box?] at hB
    simp only [G.newBox] at h
    by_cases h1 : i = s.nb
    · rw [if_pos h1] at h; have := hI.tlt k t hk; omega
    · rw [if_neg h1] at h; rw [if_neg h1] at hB; exact hI.btk i B k t hB lb hk h

/-- A row that nobody writes: it is protected whole. -/
def G.newRow (g : G) (w : World) (n : Nat) : G := { g with prot := fun b => if b = w.heap.size then n else g.prot b }

theorem Le.newRow (hI : Inv CR g s w) (n : Nat) (o : Obj) : Le g s w (g.newRow w n) s (w.alloc o) where
  io := ⟨rfl, rfl⟩
  own := fun _ _ h => h
  frame := fun b hb _ => ⟨heap_alloc_old w o hb, by simp only [G.newRow]; rw [if_neg (by omega)]⟩
  base := rfl
  size := by simp
  low := fun b hb => heap_alloc_old w o (Nat.lt_of_lt_of_le hb hI.base)
  prot := fun b => by
    by_cases h : b = w.heap.size
    · subst h; rw [hI.fresh _ (Nat.le_refl _)]; exact Nat.zero_le _
    · simp [G.newRow, h]
  cell := fun _ _ _ _ hc => cell?_alloc_some hc
  dfr := fun _ hb => heap_alloc_some hb
  nb := Nat.le_refl _
  bx := fun _ _ => rfl
  nt := Nat.le_refl _
  has := fun _ _ _ hk h => hk.2 _ h
  ok := fun _ _ _ h => h
  tok := tokLe_same (fun _ => rfl) (fun _ _ _ _ _ _ hc => cell?_alloc_some hc) (fun _ _ => rfl)

theorem Inv.newRow (hI : Inv CR g s w) (n : Nat) (o : Obj) : Inv CR (g.newRow w n) s (w.alloc o) where
  lenB := hI.lenB
  lenT := hI.lenT
  base := by have := hI.base; simp [G.newRow]; omega
  fresh := fun b hb => by
    simp at hb
    simp only [G.newRow]; rw [if_neg (by omega)]; exact hI.fresh b (by omega)
  lt := fun id hid => by
    obtain ⟨h1, h2⟩ := hI.lt id hid
    exact ⟨h1, by simp [G.newRow]; omega⟩
  pr := fun id B hb hf => by
    have := (hI.lt id (box?_lt hb)).2
    simp only [G.newRow]; rw [if_neg (by omega)]; exact hI.pr id B hb hf
  box := fun id b hb => (hI.box id b hb).mono (Le.newRow hI n o) (heap_alloc_old w o (hI.lt id (box?_lt hb)).2)
  inj := hI.inj
  tlt := fun k t hk => by have := hI.tlt k t hk; simp [G.newRow]; omega
  tok := fun k t ht => by
    have hlt := hI.tlt k t ht
    have h0 := hI.tok k t ht
    refine TokOk.heap (g := g.newRow w n) (heap_alloc_old w o hlt) { h0 with prot := ?_ }
    simp only [G.newRow]; rw [if_neg (by omega)]; exact h0.prot
  tall := fun k hk => by have := hI.tall k hk; simp [G.newRow]; omega
  tinj := hI.tinj
  btk := hI.btk

/-- A row that may grow. -/
def G.newTok (g : G) (s : St) (w : World) (es cap : Nat) : G := { g with tk := fun k => if k = s.nt then ⟨w.heap.size, es, cap⟩ else g.tk k }

theorem Le.newTok (hI : Inv CR g s w) (n es cap : Nat) (ty : Option Nat) (o : Obj) : Le g s w (g.newTok s w es cap) (s.newTok n ty) (w.alloc o) where
  io := ⟨rfl, rfl⟩
  own := fun b hb ho => by
    rcases ho with ho | ⟨k, hk, he⟩
    · exact .inl ho
    · by_cases h : k = s.nt
      · subst h; simp [G.newTok] at he; omega
      · exact .inr ⟨k, by simp [St.newTok] at hk; omega, by simpa [G.newTok, h] using he⟩
  frame := fun b hb _ => ⟨heap_alloc_old w o hb, rfl⟩
  base := rfl
  size := by simp
  low := fun b hb => heap_alloc_old w o (Nat.lt_of_lt_of_le hb hI.base)
  prot := fun b => Nat.le_refl _
  cell := fun _ _ _ _ hc => cell?_alloc_some hc
  dfr := fun _ hb => heap_alloc_some hb
  nb := Nat.le_refl _
  bx := fun _ _ => rfl
  nt := by simp [St.newTok]
  has := fun k v t' hk h => by
    rw [newTok_tok?, if_neg (by have := hk.1; omega)] at h
    exact hk.2 _ h
  ok := fun k v hk h => by
    rw [ok_iff] at h ⊢
    rw [newTok_tok?, if_neg (by have := hk.1; omega)] at h
    exact h
  tok := fun k t t' hk ht ht' _ => by
    rw [newTok_tok?, if_neg (by omega), ht] at ht'
    obtain rfl := Option.some.inj ht'
    exact ⟨fun off x _ hc => cell?_alloc_some hc, .inl ⟨by simp [G.newTok, Nat.ne_of_lt hk], Nat.le_refl _⟩⟩

theorem Inv.newTok (hI : Inv CR g s w) (n es cap : Nat) (ty : Option Nat) (arr : Array Value) (T : Nat) (fr : Nat × Nat) (hty : ∀ T', ty = some T' → T = T' ∧ fr.2 = 0) (hes : 1 ≤ es) (hn : n ≤ cap) (hsz : cap * es ≤ arr.size) (hfr : ∀ x, x < cap * es → ¬ (fr.1 ≤ x ∧ x < fr.2)) :
    Inv CR (g.newTok s w es cap) (s.newTok n ty) (w.alloc (.cells arr T fr)) where
  lenB := hI.lenB
  lenT := by simp [St.newTok, hI.lenT]
  base := by have := hI.base; simp [G.newTok]; omega
  fresh := fun b hb => hI.fresh b (by simp at hb; omega)
  lt := fun id hid => by
    obtain ⟨h1, h2⟩ := hI.lt id hid
    exact ⟨h1, by simp [G.newTok]; omega⟩
  pr := hI.pr
  box := fun id b hb => (hI.box id b hb).mono (Le.newTok hI n es cap ty _) (heap_alloc_old w _ (hI.lt id (box?_lt hb)).2)
  inj := hI.inj
  tlt := fun k t hk => by
    rw [newTok_tok?] at hk
    simp only [G.newTok, World.size_alloc]
    by_cases h : k = s.nt
    · rw [if_pos h]; simp
    · rw [if_neg h]; rw [if_neg h] at hk; have := hI.tlt k t hk; omega
  tok := fun k t ht => by
    rw [newTok_tok?] at ht
    by_cases h : k = s.nt
    · subst h; rw [if_pos rfl] at ht; cases ht
      refine { base := ?_, es := ?_, prot := ?_, pub := Nat.zero_le _, cap := ?_, row := ?_ } <;> simp only [G.newTok, if_pos]
      · exact hI.base
      · exact hes
      · rw [hI.fresh _ (Nat.le_refl _)]; omega
      · exact hn
      · exact ⟨arr, T, fr, heap_alloc_new w _, hsz, fun x _ hx => hfr x hx, fun T' hT => ⟨(hty T' hT).1, by rw [(hty T' hT).2]; exact Nat.zero_le _⟩⟩
    · rw [if_neg h] at ht
      have hlt := hI.tlt k t ht
      have h0 := hI.tok k t ht
      rw [show (g.newTok s w es cap).tk k = g.tk k by simp [G.newTok, h]]
      exact TokOk.heap (g := g.newTok s w es cap) (heap_alloc_old w _ hlt) { h0 with }
  tall := fun k hk => by
    simp only [G.newTok, World.size_alloc]
    by_cases h : k = s.nt
    · rw [if_pos h]; simp
    · rw [if_neg h]; have := hI.tall k (by simp [St.newTok] at hk; omega); omega
  tinj := fun i j t u hi hj h => by
    rw [newTok_tok?] at hi hj
    simp only [G.newTok] at h
    by_cases h1 : i = s.nt <;> by_cases h2 : j = s.nt
    · omega
    · rw [if_pos h1, if_neg h2] at h
      rw [if_neg h2] at hj
      have := hI.tlt j u hj; simp at h; omega
    · rw [if_neg h1, if_pos h2] at h
      rw [if_neg h1] at hi
      have := hI.tlt i t hi; simp at h; omega
    · rw [if_neg h1, if_neg h2] at h
      rw [if_neg h1] at hi; rw [if_neg h2] at hj
      exact hI.tinj i j t u hi hj h
  btk := fun i B k t hB lb hk h => by
    rw [newTok_tok?] at hk
    simp only [G.newTok] at h
    by_cases h1 : k = s.nt
    · rw [if_pos h1] at h; have := (hI.lt i (box?_lt hB)).2; simp at h; omega
    · rw [if_neg h1] at h; rw [if_neg h1] at hk; exact hI.btk i B k t hB lb hk h
end new
end Go.Proofs.YtfaodjpibdhdjaaDoor.Am
