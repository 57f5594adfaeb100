/-
  What an abstract value stands for in a world of the model, and what a state of the abstract machine stands for.
-/
import Derived.Test.YtfaodjpibdhdjaaDoorAmDefs
import Derived.Laws.World
import Derived.Laws.Sem
set_option linter.all false
set_option linter.unusedVariables false
set_option linter.unusedSimpArgs false
set_option linter.unusedSectionVars false
set_option linter.constructorNameAsVariable false
namespace Go.Proofs.YtfaodjpibdhdjaaDoor.Am

structure Loc where
  blk : Nat
  es : Nat
  cap : Nat
  deriving Inhabited

/-- base: blocks below are not touched; bx: the block of a box; tk: where the newest slice of a row lies; prot: so many cells of a block are never written again. -/
structure G where
  base : Nat
  bx : Nat → Nat
  tk : Nat → Loc
  prot : Nat → Nat

def safe (g : G) (b n : Nat) : Prop := b < g.base ∨ n ≤ g.prot b
/-- What holds of the place of a slice (or of an element) of mode m, n cells from off on in block b: they stay as they are as long as the mode is good. -/
def Stays (g : G) (s : St) (m : Cap) (b off n : Nat) : Prop :=
  match m with
  | .tok k _ => safe g b (off + n) ∨ ∃ t, s.tok? k = some t ∧ (g.tk k).blk = b ∧ off + n ≤ t.front * (g.tk k).es
  | _ => safe g b (off + n)

/-- What holds of a slice's capacity. -/
def CapIs (g : G) (s : St) (m : Cap) (es len : Nat) (b off cap : Nat) : Prop :=
  match m with
  | .full => cap = len
  | .shut => len ≤ cap
  | .tok k _ => off = 0 ∧ (g.tk k).es = es ∧ len ≤ cap ∧ ∀ t, s.tok? k = some t → len ≤ t.front ∧ (t.front = len → g.tk k = ⟨b, es, cap⟩)

def capM (f : Bool) : Cap := if f then .full else .shut

def Known (s : St) : Cap → Prop
  | .tok k v => k < s.nt ∧ ∀ t, s.tok? k = some t → v ≤ t.ver
  | _ => True

def cellsAt (w : World) (b off : Nat) (l : List Value) : Prop := ∀ j v, l[j]? = some v → w.cell? ⟨b, off + j, none⟩ = some v

def bytesOf (l : List Nat) : ByteArray := ⟨(l.map UInt8.ofNat).toArray⟩
def strOf (l : List Nat) : String := String.ofList (l.map Char.ofNat)
def flat (vs : List Value) : List Value := vs.flatMap fun v => v.cells.toList

mutual
def V (g : G) (s : St) (w : World) : AV → Value → Prop
  | .b x, v => v = .bool x
  | .i k n, v => v = .int k n
  | .s l, v => v = .string (bytesOf l) ∧ ∀ n ∈ l, n < 256
  | .np, v => v = .pointer none
  | .p id off, v => id < s.nb ∧ v = .pointer (some ⟨g.bx id, off, none⟩)
  | .ep l off m, v => ∃ b o cs, v = .pointer (some ⟨b, o + off, none⟩) ∧ Known s m ∧ (s.ok m = true → VL g s w l cs ∧ cellsAt w b o cs ∧ Stays g s m b o cs.length)
  | .nsl, v => v = .slice none 0 0
  | .sl es xs m, v => ∃ b o cap vs, v = .slice (some ⟨b, o, none⟩) xs.length cap ∧ (1 ≤ es ∧ xs.length ≤ cap) ∧ allLen es xs = true ∧ Known s m ∧
      (s.ok m = true → VL g s w xs vs ∧ cellsAt w b o (flat vs) ∧ Stays g s m b o (xs.length * es) ∧ CapIs g s m es xs.length b o cap)
  | .wz, v => ∃ a, v = .slice (some a) 0 0
  | .ws f es xs, v => (v = .slice none 0 0 ∧ xs = []) ∨ ((∃ a, v = .slice (some a) 0 0) ∧ xs = []) ∨ ∃ b o cap vs, v = .slice (some ⟨b, o, none⟩) xs.length cap ∧ (1 ≤ es ∧ xs.length ≤ cap) ∧ allLen es xs = true ∧ Known s (capM f) ∧
      (s.ok (capM f) = true → VL g s w xs vs ∧ cellsAt w b o (flat vs) ∧ Stays g s (capM f) b o (xs.length * es) ∧ CapIs g s (capM f) es xs.length b o cap)
  | .bl id es off n e, v => ∃ o cap, v = .slice (some ⟨g.bx id, o, none⟩) n cap ∧ id < s.nb ∧ (1 ≤ es ∧ n ≤ cap) ∧ (e.1 ≤ off + cap * es ∧ (e.2 = true → off + cap * es = e.1)) ∧ (0 < cap → o = off) ∧ o ≤ off
  | .sd xs k u, v => ∃ b o cap vs, v = .pointer (some ⟨b, o, none⟩) ∧ (1 ≤ 1 ∧ xs.length ≤ cap) ∧ allLen 1 xs = true ∧ Known s (.tok k u) ∧
      (s.ok (.tok k u) = true → VL g s w xs vs ∧ cellsAt w b o (flat vs) ∧ Stays g s (.tok k u) b o (xs.length * 1) ∧ CapIs g s (.tok k u) 1 xs.length b o cap)
  | .ige n, v => ∃ z : Int, v = .int .i64 z ∧ Int.ofNat n ≤ z
  | .nm, v => v = .map none
  | .m id, v => id < s.nb ∧ v = .map (some (g.bx id))
  | .nf, v => v = .nilFunc
  | .fn f caps, v => ∃ vs, VL g s w caps vs ∧ v = .func (.func f) #[] vs.toArray
  | .yld l, v => l < s.nb ∧ v = .func (.yield (g.bx l)) #[] #[]
  | .ni, v => v = .nilIface
  | .ifc t a, v => ∃ u, V g s w a u ∧ v = .iface t u
  | .agg l, v => ∃ vs, VL g s w l vs ∧ v = .agg vs.toArray
  | .tup l, v => ∃ vs, VL g s w l vs ∧ v = .tuple vs.toArray
  | .any, v => ∃ k n, v = .int k n
  | .mth nm a, v => ∃ u, V g s w a u ∧ v = .func (.method (strOf nm)) #[u] #[]
def VL (g : G) (s : St) (w : World) : List AV → List Value → Prop
  | [], vs => vs = []
  | a :: l, vs => ∃ v r, vs = v :: r ∧ V g s w a v ∧ VL g s w l r
end

/-- The blocks of the boxes and of the rows. -/
def Own (g : G) (s : St) (b : Nat) : Prop := (∃ id, id < s.nb ∧ g.bx id = b) ∨ ∃ k, k < s.nt ∧ (g.tk k).blk = b

/-- What may come of a state: what stood for something stands for it still. -/
structure Le0 (g : G) (s : St) (w : World) (g' : G) (s' : St) (w' : World) : Prop where
  base : g'.base = g.base
  size : w.heap.size ≤ w'.heap.size
  low : ∀ b : Nat, b < g.base → w'.heap[b]? = w.heap[b]?
  prot : ∀ b, g.prot b ≤ g'.prot b
  cell : ∀ b off v, safe g b (off + 1) → w.cell? ⟨b, off, none⟩ = some v → w'.cell? ⟨b, off, none⟩ = some v
  dfr : ∀ b : Nat, w.heap[b]? = some (.deferred (some [])) → w'.heap[b]? = some (.deferred (some []))
  nb : s.nb ≤ s'.nb
  bx : ∀ id, id < s.nb → g'.bx id = g.bx id
  nt : s.nt ≤ s'.nt
  has : ∀ k v t', Known s (.tok k v) → s'.tok? k = some t' → v ≤ t'.ver
  ok : ∀ k v, Known s (.tok k v) → s'.ok (.tok k v) = true → s.ok (.tok k v) = true
  tok : ∀ k t t', k < s.nt → s.tok? k = some t → s'.tok? k = some t' → t'.ver = t.ver →
    (∀ off x, off < t.front * (g.tk k).es → w.cell? ⟨(g.tk k).blk, off, none⟩ = some x → w'.cell? ⟨(g.tk k).blk, off, none⟩ = some x) ∧
    ((g'.tk k = g.tk k ∧ t.front ≤ t'.front) ∨ (safe g' (g.tk k).blk (t.front * (g.tk k).es) ∧ t.front < t'.front ∧ (g'.tk k).es = (g.tk k).es))
  io : w'.os = w.os ∧ w'.output = w.output

/-- .. and no block that was nobody's has been taken, or written. -/
structure Le (g : G) (s : St) (w : World) (g' : G) (s' : St) (w' : World) : Prop extends Le0 g s w g' s' w' where
  own : ∀ b, b < w.heap.size → Own g' s' b → Own g s b
  frame : ∀ b, b < w.heap.size → ¬ Own g s b → w'.heap[b]? = w.heap[b]? ∧ g'.prot b = g.prot b

section mono
variable {g g' : G} {s s' : St} {w w' : World}

theorem safe_mono0 (h : Le0 g s w g' s' w') {b n : Nat} (hs : safe g b n) : safe g' b n := by
  rcases hs with hs | hs
  · exact .inl (by rw [h.base]; exact hs)
  · exact .inr (Nat.le_trans hs (h.prot b))

theorem ok_tok {s : St} {k v : Nat} (h : s.ok (.tok k v) = true) : ∃ t, s.tok? k = some t ∧ t.ver = v := by
  simp only [St.ok] at h
  cases ht : s.tok? k with
  | none => simp [ht] at h
  | some t => simp only [ht] at h; exact ⟨t, rfl, Nat.eq_of_beq_eq_true h⟩

theorem Known.mono0 (h : Le0 g s w g' s' w') {m : Cap} (hk : Known s m) : Known s' m := by
  cases m with
  | full => trivial
  | shut => trivial
  | tok k v =>
    refine ⟨Nat.lt_of_lt_of_le hk.1 h.nt, fun t' ht' => ?_⟩
    exact h.has k v t' hk ht'

theorem ok_back0 (h : Le0 g s w g' s' w') {m : Cap} (hk : Known s m) (ho : s'.ok m = true) : s.ok m = true := by
  cases m with
  | tok k v => exact h.ok k v hk ho
  | full => rfl
  | shut => rfl

theorem Stays.mono0 (h : Le0 g s w g' s' w') {m : Cap} {b off n : Nat} (hk : Known s m) (ho : s'.ok m = true) (hs : Stays g s m b off n) : Stays g' s' m b off n := by
  cases m with
  | full => exact safe_mono0 h hs
  | shut => exact safe_mono0 h hs
  | tok k v =>
    obtain ⟨t', ht', hv'⟩ := ok_tok ho
    obtain ⟨t, ht, hv⟩ := ok_tok (h.ok k v hk ho)
    obtain ⟨_, h2⟩ := h.tok k t t' hk.1 ht ht' (by omega)
    rcases hs with hs | ⟨t1, ht1, hb, hhi⟩
    · exact .inl (safe_mono0 h hs)
    · obtain rfl := Option.some.inj (ht.symm.trans ht1)
      rcases h2 with ⟨he, hf⟩ | ⟨hp, _, _⟩
      · refine .inr ⟨t', ht', by rw [he]; exact hb, ?_⟩
        rw [he]; exact Nat.le_trans hhi (Nat.mul_le_mul_right _ hf)
      · left
        rw [hb] at hp
        rcases hp with hp | hp
        · exact .inl hp
        · exact .inr (Nat.le_trans hhi hp)

theorem CapIs.mono0 (h : Le0 g s w g' s' w') {m : Cap} {es len b off cap : Nat} (hk : Known s m) (ho : s'.ok m = true) (hs : CapIs g s m es len b off cap) : CapIs g' s' m es len b off cap := by
  cases m with
  | full => exact hs
  | shut => exact hs
  | tok k v =>
    obtain ⟨t', ht', hv'⟩ := ok_tok ho
    obtain ⟨t, ht, hv⟩ := ok_tok (h.ok k v hk ho)
    obtain ⟨_, h2⟩ := h.tok k t t' hk.1 ht ht' (by omega)
    obtain ⟨ho0, hes, hcap, hs⟩ := hs
    obtain ⟨h3, h4⟩ := hs t ht
    rcases h2 with ⟨he, hf⟩ | ⟨_, hf, he⟩
    · refine ⟨ho0, by rw [he]; exact hes, hcap, fun t1 ht1 => ?_⟩
      obtain rfl := Option.some.inj (ht'.symm.trans ht1)
      exact ⟨by omega, fun hl => by rw [he]; exact h4 (by omega)⟩
    · refine ⟨ho0, by rw [he]; exact hes, hcap, fun t1 ht1 => ?_⟩
      obtain rfl := Option.some.inj (ht'.symm.trans ht1)
      exact ⟨by omega, fun hl => by omega⟩

theorem cellsAt.mono0 (h : Le0 g s w g' s' w') {m : Cap} {b off : Nat} {l : List Value} (hk : Known s m) (ho : s'.ok m = true) (hs : Stays g s m b off l.length) (hc : cellsAt w b off l) :
    cellsAt w' b off l := by
  intro j v hj
  have hlt : j < l.length := by
    rcases List.getElem?_eq_some_iff.1 hj with ⟨hlt, _⟩; exact hlt
  have hsafe : safe g b (off + l.length) → w'.cell? ⟨b, off + j, none⟩ = some v := fun hs => by
    refine h.cell b (off + j) v ?_ (hc j v hj)
    rcases hs with hs | hs
    · exact .inl hs
    · exact .inr (by omega)
  cases m with
  | full => exact hsafe hs
  | shut => exact hsafe hs
  | tok k u =>
    rcases hs with hs | ⟨t1, ht1, hb, hhi⟩
    · exact hsafe hs
    · obtain ⟨t', ht', hv'⟩ := ok_tok ho
      obtain ⟨t, ht, hv⟩ := ok_tok (h.ok k u hk ho)
      obtain rfl := Option.some.inj (ht.symm.trans ht1)
      obtain ⟨h1, _⟩ := h.tok k t t' hk.1 ht ht' (by omega)
      have := h1 (off + j) v (by omega)
      rw [hb] at this
      exact this (hc j v hj)
end mono

theorem VL.length {g : G} {s : St} {w : World} : ∀ {l : List AV} {vs : List Value}, VL g s w l vs → vs.length = l.length
  | [], vs, h => by simp only [VL] at h; simp [h]
  | a :: l, vs, h => by
    simp only [VL] at h
    obtain ⟨v, r, rfl, _, h⟩ := h
    simp [VL.length h]

theorem V_cells {g : G} {s : St} {w : World} {a : AV} {v : Value} (h : V g s w a v) : VL g s w a.cells v.cells.toList := by
  cases a <;> simp only [V, AV.cells, VL] at h ⊢
  case agg l => obtain ⟨vs, h, rfl⟩ := h; simpa [Value.cells] using h
  case b => subst h; simp [Value.cells]
  case i => subst h; simp [Value.cells]
  case s => obtain ⟨rfl, h⟩ := h; simpa [Value.cells] using h
  case np => subst h; simp [Value.cells]
  case p => obtain ⟨h, rfl⟩ := h; simpa [Value.cells] using h
  case ep => obtain ⟨b, o, cs, rfl, h⟩ := h; exact ⟨_, [], by simp [Value.cells], ⟨b, o, cs, rfl, h⟩, rfl⟩
  case nsl => subst h; simp [Value.cells]
  case sl => obtain ⟨b, o, cs, vs, rfl, h⟩ := h; exact ⟨_, [], by simp [Value.cells], ⟨b, o, cs, vs, rfl, h⟩, rfl⟩
  case ws =>
    rcases h with ⟨rfl, h⟩ | ⟨⟨a, rfl⟩, h⟩ | ⟨b, o, cs, vs, rfl, h⟩
    · exact ⟨_, [], by simp [Value.cells], .inl ⟨rfl, h⟩, rfl⟩
    · exact ⟨_, [], by simp [Value.cells], .inr (.inl ⟨⟨a, rfl⟩, h⟩), rfl⟩
    · exact ⟨_, [], by simp [Value.cells], .inr (.inr ⟨b, o, cs, vs, rfl, h⟩), rfl⟩
  case bl => obtain ⟨o, cap, rfl, h⟩ := h; exact ⟨_, [], by simp [Value.cells], ⟨o, cap, rfl, h⟩, rfl⟩
  case wz => obtain ⟨a, rfl⟩ := h; exact ⟨_, [], by simp [Value.cells], ⟨a, rfl⟩, rfl⟩
  case ige => obtain ⟨z, rfl, h⟩ := h; exact ⟨_, [], by simp [Value.cells], ⟨z, rfl, h⟩, rfl⟩
  case sd => obtain ⟨b, o, cs, vs, rfl, h⟩ := h; exact ⟨_, [], by simp [Value.cells], ⟨b, o, cs, vs, rfl, h⟩, rfl⟩
  case nm => subst h; simp [Value.cells]
  case m => obtain ⟨h, rfl⟩ := h; simpa [Value.cells] using h
  case nf => subst h; simp [Value.cells]
  case fn => obtain ⟨vs, h, rfl⟩ := h; exact ⟨_, [], by simp [Value.cells], ⟨vs, h, rfl⟩, rfl⟩
  case yld => obtain ⟨h, rfl⟩ := h; simpa [Value.cells] using h
  case ni => subst h; simp [Value.cells]
  case ifc => obtain ⟨vs, h, rfl⟩ := h; exact ⟨_, [], by simp [Value.cells], ⟨vs, h, rfl⟩, rfl⟩
  case tup => obtain ⟨vs, h, rfl⟩ := h; exact ⟨_, [], by simp [Value.cells], ⟨vs, h, rfl⟩, rfl⟩
  case any => obtain ⟨k, n, rfl⟩ := h; exact ⟨_, [], by simp [Value.cells], ⟨k, n, rfl⟩, rfl⟩
  case mth => obtain ⟨u, h, rfl⟩ := h; exact ⟨_, [], by simp [Value.cells], ⟨u, h, rfl⟩, rfl⟩

theorem V_size {g : G} {s : St} {w : World} {a : AV} {v : Value} (h : V g s w a v) : v.cells.size = a.cells.length := by
  have := (V_cells h).length
  simpa using this

theorem flat_length {g : G} {s : St} {w : World} {es : Nat} : ∀ {xs : List AV} {vs : List Value}, VL g s w xs vs → allLen es xs = true → (flat vs).length = xs.length * es
  | [], vs, h, _ => by simp only [VL] at h; simp [h, flat]
  | a :: l, vs, h, ha => by
    simp only [VL] at h
    obtain ⟨v, r, rfl, hv, h⟩ := h
    simp only [allLen, Bool.and_eq_true] at ha
    have h1 := flat_length h ha.2
    have h2 := V_size hv
    have h3 := Nat.eq_of_beq_eq_true ha.1.1
    simp only [flat, List.flatMap_cons, List.length_append, Array.length_toList, List.length_cons] at h1 ⊢
    rw [Nat.add_mul, h1, h2, h3]; omega

mutual
theorem V_mono0 {g g' : G} {s s' : St} {w w' : World} (h : Le0 g s w g' s' w') : ∀ (a : AV) (v : Value), V g s w a v → V g' s' w' a v
  | .b _, _, hv => by simpa only [V] using hv
  | .i _ _, _, hv => by simpa only [V] using hv
  | .s _, _, hv => by simpa only [V] using hv
  | .np, _, hv => by simpa only [V] using hv
  | .p id off, _, hv => by
    simp only [V] at hv ⊢
    exact ⟨Nat.lt_of_lt_of_le hv.1 h.nb, by rw [h.bx id hv.1]; exact hv.2⟩
  | .ep l off m, _, hv => by
    simp only [V] at hv ⊢
    obtain ⟨b, o, cs, he, hk, hv⟩ := hv
    refine ⟨b, o, cs, he, hk.mono0 h, fun ho => ?_⟩
    obtain ⟨h1, h2, h3⟩ := hv (ok_back0 h hk ho)
    exact ⟨VL_mono0 h l cs h1, h2.mono0 h hk ho h3, h3.mono0 h hk ho⟩
  | .nsl, _, hv => by simpa only [V] using hv
  | .sl es xs m, _, hv => by
    simp only [V] at hv ⊢
    obtain ⟨b, o, cap, vs, he, h0, ha, hk, hv⟩ := hv
    refine ⟨b, o, cap, vs, he, h0, ha, hk.mono0 h, fun ho => ?_⟩
    obtain ⟨h1, h2, h3, h4⟩ := hv (ok_back0 h hk ho)
    have hl := flat_length h1 ha
    exact ⟨VL_mono0 h xs vs h1, h2.mono0 h hk ho (by rw [hl]; exact h3), h3.mono0 h hk ho, h4.mono0 h hk ho⟩
  | .ws f es xs, _, hv => by
    simp only [V] at hv ⊢
    rcases hv with hv | hv | ⟨b, o, cap, vs, he, h0, ha, hk, hv⟩
    · exact .inl hv
    · exact .inr (.inl hv)
    refine .inr (.inr ⟨b, o, cap, vs, he, h0, ha, hk.mono0 h, fun ho => ?_⟩)
    obtain ⟨h1, h2, h3, h4⟩ := hv (ok_back0 h hk ho)
    have hl := flat_length h1 ha
    exact ⟨VL_mono0 h xs vs h1, h2.mono0 h hk ho (by rw [hl]; exact h3), h3.mono0 h hk ho, h4.mono0 h hk ho⟩
  | .bl id es off n e, _, hv => by
    simp only [V] at hv ⊢
    obtain ⟨o, cap, he, h1, h2⟩ := hv
    exact ⟨o, cap, by rw [h.bx id h1]; exact he, Nat.lt_of_lt_of_le h1 h.nb, h2⟩
  | .sd xs k u, _, hv => by
    simp only [V] at hv ⊢
    obtain ⟨b, o, cap, vs, he, h0, ha, hk, hv⟩ := hv
    refine ⟨b, o, cap, vs, he, h0, ha, hk.mono0 h, fun ho => ?_⟩
    obtain ⟨h1, h2, h3, h4⟩ := hv (ok_back0 h hk ho)
    have hl := flat_length h1 ha
    exact ⟨VL_mono0 h xs vs h1, h2.mono0 h hk ho (by rw [hl]; exact h3), h3.mono0 h hk ho, h4.mono0 h hk ho⟩
  | .nm, _, hv => by simpa only [V] using hv
  | .m id, _, hv => by
    simp only [V] at hv ⊢
    exact ⟨Nat.lt_of_lt_of_le hv.1 h.nb, by rw [h.bx id hv.1]; exact hv.2⟩
  | .nf, _, hv => by simpa only [V] using hv
  | .fn f caps, _, hv => by
    simp only [V] at hv ⊢
    obtain ⟨vs, h1, h2⟩ := hv
    exact ⟨vs, VL_mono0 h caps vs h1, h2⟩
  | .yld id, _, hv => by
    simp only [V] at hv ⊢
    exact ⟨Nat.lt_of_lt_of_le hv.1 h.nb, by rw [h.bx id hv.1]; exact hv.2⟩
  | .ni, _, hv => by simpa only [V] using hv
  | .ifc t a, _, hv => by
    simp only [V] at hv ⊢
    obtain ⟨u, h1, h2⟩ := hv
    exact ⟨u, V_mono0 h a u h1, h2⟩
  | .agg l, _, hv => by
    simp only [V] at hv ⊢
    obtain ⟨vs, h1, h2⟩ := hv
    exact ⟨vs, VL_mono0 h l vs h1, h2⟩
  | .tup l, _, hv => by
    simp only [V] at hv ⊢
    obtain ⟨vs, h1, h2⟩ := hv
    exact ⟨vs, VL_mono0 h l vs h1, h2⟩
  | .any, _, hv => by simpa only [V] using hv
  | .ige _, _, hv => by simpa only [V] using hv
  | .wz, _, hv => by simpa only [V] using hv
  | .mth nm a, _, hv => by
    simp only [V] at hv ⊢
    obtain ⟨u, h1, h2⟩ := hv
    exact ⟨u, V_mono0 h a u h1, h2⟩
theorem VL_mono0 {g g' : G} {s s' : St} {w w' : World} (h : Le0 g s w g' s' w') : ∀ (l : List AV) (vs : List Value), VL g s w l vs → VL g' s' w' l vs
  | [], _, hv => by simpa only [VL] using hv
  | a :: l, _, hv => by
    simp only [VL] at hv ⊢
    obtain ⟨v, r, he, h1, h2⟩ := hv
    exact ⟨v, r, he, V_mono0 h a v h1, VL_mono0 h l r h2⟩
end


section wrap
variable {g g' : G} {s s' : St} {w w' : World}
theorem safe_mono (h : Le g s w g' s' w') {b n : Nat} (hs : safe g b n) : safe g' b n := safe_mono0 h.toLe0 hs
theorem Known.mono (h : Le g s w g' s' w') {m : Cap} (hk : Known s m) : Known s' m := hk.mono0 h.toLe0
theorem ok_back (h : Le g s w g' s' w') {m : Cap} (hk : Known s m) (ho : s'.ok m = true) : s.ok m = true := ok_back0 h.toLe0 hk ho
theorem Stays.mono (h : Le g s w g' s' w') {m : Cap} {b off n : Nat} (hk : Known s m) (ho : s'.ok m = true) (hs : Stays g s m b off n) : Stays g' s' m b off n := hs.mono0 h.toLe0 hk ho
theorem CapIs.mono (h : Le g s w g' s' w') {m : Cap} {es len b off cap : Nat} (hk : Known s m) (ho : s'.ok m = true) (hs : CapIs g s m es len b off cap) : CapIs g' s' m es len b off cap := hs.mono0 h.toLe0 hk ho
theorem cellsAt.mono (h : Le g s w g' s' w') {m : Cap} {b off : Nat} {l : List Value} (hk : Known s m) (ho : s'.ok m = true) (hs : Stays g s m b off l.length) (hc : cellsAt w b off l) : cellsAt w' b off l := cellsAt.mono0 h.toLe0 hk ho hs hc
theorem V_mono (h : Le g s w g' s' w') (a : AV) (v : Value) (hv : V g s w a v) : V g' s' w' a v := V_mono0 h.toLe0 a v hv
theorem VL_mono (h : Le g s w g' s' w') (l : List AV) (vs : List Value) (hv : VL g s w l vs) : VL g' s' w' l vs := VL_mono0 h.toLe0 l vs hv
end wrap

theorem Le.refl (g : G) (s : St) (w : World) : Le g s w g s w where
  base := rfl
  size := Nat.le_refl _
  low := fun _ _ => rfl
  prot := fun _ => Nat.le_refl _
  cell := fun _ _ _ _ h => h
  dfr := fun _ h => h
  nb := Nat.le_refl _
  bx := fun _ _ => rfl
  nt := Nat.le_refl _
  has := fun _ _ _ hk h => hk.2 _ h
  ok := fun _ _ _ h => h
  tok := fun k t t' _ h h' _ => by
    rw [h] at h'; cases h'
    exact ⟨fun _ _ _ h => h, .inl ⟨rfl, Nat.le_refl _⟩⟩
  io := ⟨rfl, rfl⟩
  own := fun _ _ h => h
  frame := fun _ _ _ => ⟨rfl, rfl⟩

theorem ok_iff {s : St} {k v : Nat} : s.ok (.tok k v) = true ↔ ∃ t, s.tok? k = some t ∧ t.ver = v :=
  ⟨ok_tok, fun ⟨t, h, hv⟩ => by simp only [St.ok, h]; exact hv ▸ Nat.beq_refl _⟩

theorem Le0.trans {g1 g2 g3 : G} {s1 s2 s3 : St} {w1 w2 w3 : World} (h : Le0 g1 s1 w1 g2 s2 w2) (k : Le0 g2 s2 w2 g3 s3 w3) : Le0 g1 s1 w1 g3 s3 w3 where
  io := ⟨k.io.1.trans h.io.1, k.io.2.trans h.io.2⟩
  base := by rw [k.base, h.base]
  size := Nat.le_trans h.size k.size
  low := fun b hb => by rw [k.low b (by rw [h.base]; exact hb), h.low b hb]
  prot := fun b => Nat.le_trans (h.prot b) (k.prot b)
  cell := fun b off v hs hv => k.cell b off v (safe_mono0 h hs) (h.cell b off v hs hv)
  dfr := fun b hb => k.dfr b (h.dfr b hb)
  nb := Nat.le_trans h.nb k.nb
  bx := fun id hid => by rw [k.bx id (Nat.lt_of_lt_of_le hid h.nb), h.bx id hid]
  nt := Nat.le_trans h.nt k.nt
  has := fun x v t'' hx ht'' => k.has x v t'' (hx.mono0 h) ht''
  ok := fun x v hx ho => h.ok x v hx (k.ok x v (hx.mono0 h) ho)
  tok := fun x t t'' hx ht ht'' hv => by
    have hK : Known s1 (.tok x t''.ver) := ⟨hx, fun t1 ht1 => by obtain rfl := Option.some.inj (ht.symm.trans ht1); omega⟩
    obtain ⟨t', ht', hv'⟩ := ok_tok (k.ok x t''.ver (hK.mono0 h) (ok_iff.2 ⟨t'', ht'', rfl⟩))
    obtain ⟨a1, a2⟩ := h.tok x t t' hx ht ht' (by omega)
    obtain ⟨b1, b2⟩ := k.tok x t' t'' (Nat.lt_of_lt_of_le hx h.nt) ht' ht'' (by omega)
    have hcell : ∀ off v, safe g2 (g1.tk x).blk (t.front * (g1.tk x).es) → off < t.front * (g1.tk x).es →
        w2.cell? ⟨(g1.tk x).blk, off, none⟩ = some v → w3.cell? ⟨(g1.tk x).blk, off, none⟩ = some v := fun off v hs hlt hc => by
      refine k.cell _ _ _ ?_ hc
      rcases hs with hs | hs
      · exact .inl hs
      · exact .inr (by omega)
    rcases a2 with ⟨ae, af⟩ | ⟨ap, af, ae⟩
    · rw [ae] at b1 b2
      have hmul : t.front * (g1.tk x).es ≤ t'.front * (g1.tk x).es := Nat.mul_le_mul_right _ af
      refine ⟨fun off v h2 h3 => b1 off v (by omega) (a1 off v h2 h3), ?_⟩
      rcases b2 with ⟨be, bf⟩ | ⟨bp, bf, be⟩
      · exact .inl ⟨be, by omega⟩
      · refine .inr ⟨?_, by omega, be⟩
        rcases bp with bp | bp
        · exact .inl bp
        · exact .inr (by omega)
    · refine ⟨fun off v h2 h3 => hcell off v ap h2 (a1 off v h2 h3), .inr ⟨safe_mono0 k ap, ?_⟩⟩
      rcases b2 with ⟨be, bf⟩ | ⟨_, bf, be⟩
      · exact ⟨by omega, by rw [be, ae]⟩
      · exact ⟨by omega, by rw [be, ae]⟩

theorem Le.trans {g1 g2 g3 : G} {s1 s2 s3 : St} {w1 w2 w3 : World} (h : Le g1 s1 w1 g2 s2 w2) (k : Le g2 s2 w2 g3 s3 w3) : Le g1 s1 w1 g3 s3 w3 where
  toLe0 := h.toLe0.trans k.toLe0
  own := fun b hb ho => h.own b hb (k.own b (Nat.lt_of_lt_of_le hb h.size) ho)
  frame := fun b hb ho => by
    obtain ⟨h1, h2⟩ := h.frame b hb ho
    obtain ⟨k1, k2⟩ := k.frame b (Nat.lt_of_lt_of_le hb h.size) fun ho2 => ho (h.own b hb ho2)
    exact ⟨k1.trans h1, k2.trans h2⟩

/-- A slice told at a border is nil, or a slice. -/
theorem V_ws {g : G} {s : St} {w : World} {f : Bool} {es : Nat} {xs : List AV} {v : Value} : V g s w (.ws f es xs) v ↔ (V g s w .nsl v ∧ xs = []) ∨ (V g s w .wz v ∧ xs = []) ∨ V g s w (.sl es xs (capM f)) v := by
  simp only [V]

theorem capM_ok {s : St} {f : Bool} : s.ok (capM f) = true ∧ Known s (capM f) := by cases f <;> exact ⟨rfl, trivial⟩

theorem V_weak {g : G} {s : St} {w : World} {es : Nat} {xs : List AV} {m : Cap} {f : Bool} {v : Value} (hm : m = capM f ∨ (m = .full ∧ f = false)) (h : V g s w (.sl es xs m) v) : V g s w (.ws f es xs) v := by
  rw [V_ws]
  right; right
  rcases hm with rfl | ⟨rfl, rfl⟩
  · exact h
  · simp only [V] at h ⊢
    obtain ⟨b, o, cap, vs, he, h0, ha, _, hv⟩ := h
    refine ⟨b, o, cap, vs, he, h0, ha, trivial, fun _ => ?_⟩
    obtain ⟨h1, h2, h3, h4⟩ := hv rfl
    exact ⟨h1, h2, h3, h0.2⟩

theorem V_wswz {g : G} {s : St} {w : World} {es : Nat} {f : Bool} {v : Value} (h : V g s w .wz v) : V g s w (.ws f es []) v := V_ws.2 (.inr (.inl ⟨h, rfl⟩))
theorem V_wsnil {g : G} {s : St} {w : World} {es : Nat} {f : Bool} {v : Value} (h : V g s w .nsl v) : V g s w (.ws f es []) v := V_ws.2 (.inl ⟨h, rfl⟩)
end Go.Proofs.YtfaodjpibdhdjaaDoor.Am
