/-
  A block that is nobody's becomes a box.
-/
import Derived.Test.YtfaodjpibdhdjaaDoorAmOps8
set_option linter.all false
set_option linter.unusedVariables false
set_option linter.unusedSimpArgs false
set_option linter.unusedSectionVars false
set_option linter.constructorNameAsVariable false
namespace Go.Proofs.YtfaodjpibdhdjaaDoor.Am
variable {CR : Nat → Code → C → Prop} {P : Program} {g : G} {s : St} {w : World}

def G.adopt (g : G) (s : St) (b : Nat) : G := { g with bx := fun id => if id = s.nb then b else g.bx id }

theorem Le0.adopt (hI : Inv CR g s w) (b : Nat) (B : Box) : Le0 g s w (g.adopt s b) (s.new B) w where
  io := ⟨rfl, rfl⟩
  base := rfl
  size := Nat.le_refl _
  low := fun _ _ => rfl
  prot := fun _ => Nat.le_refl _
  cell := fun _ _ _ _ hc => hc
  dfr := fun _ hb => hb
  nb := by simp [St.new]
  bx := fun id hid => by simp [G.adopt, Nat.ne_of_lt hid]
  nt := Nat.le_refl _
  has := fun _ _ _ hk h => hk.2 _ h
  ok := fun _ _ _ h => h
  tok := tokLe_same (fun _ => rfl) (fun _ _ _ _ _ _ hc => hc) (fun _ _ => rfl)

/-- What is known of a block that is nobody's yet. -/
structure Free (g : G) (s : St) (w : World) (b : Nat) : Prop where
  base : g.base ≤ b
  lt : b < w.heap.size
  own : ¬ Own g s b
  prot : g.prot b = 0

theorem Inv.adopt (hI : Inv CR g s w) {b : Nat} (hF : Free g s w b) {T : Nat} {l : List AV} {arr : Array Value} (hb : w.heap[b]? = some (.cells arr T (0, 0))) (hl : VL g s w l arr.toList) :
    Inv CR (g.adopt s b) (s.new (.cells T l)) w := by
  have hL := Le0.adopt hI b (.cells T l)
  have hne : ∀ id, id < s.nb → g.bx id ≠ b := fun id hid he => hF.own (.inl ⟨id, hid, he⟩)
  have hnt : ∀ k, k < s.nt → (g.tk k).blk ≠ b := fun k hk he => hF.own (.inr ⟨k, hk, he⟩)
  have hbx : ∀ id, id < s.nb → (g.adopt s b).bx id = g.bx id := fun id hid => by simp [G.adopt, Nat.ne_of_lt hid]
  have hnew : (g.adopt s b).bx s.nb = b := by simp [G.adopt]
  have hboxes : ∀ id B, (s.new (.cells T l)).box? id = some B → (id = s.nb ∧ B = .cells T l) ∨ (id ≠ s.nb ∧ s.box? id = some B) := fun id B hB => by
    rw [new_box?] at hB
    by_cases hid : id = s.nb
    · rw [if_pos hid] at hB; cases hB; exact .inl ⟨hid, rfl⟩
    · rw [if_neg hid] at hB; exact .inr ⟨hid, hB⟩
  exact {
    lenB := by simp [St.new, hI.lenB]
    lenT := hI.lenT
    base := hI.base
    fresh := hI.fresh
    lt := fun id hid => by
      by_cases h : id = s.nb
      · subst h; rw [hnew]; exact ⟨hF.base, hF.lt⟩
      · have hid' : id < s.nb := by simp [St.new] at hid; omega
        rw [hbx id hid']; exact hI.lt id hid'
    pr := fun id B hB hf => by
      rcases hboxes id B hB with ⟨rfl, rfl⟩ | ⟨_, hB⟩
      · rw [hnew]; exact hF.prot
      · rw [hbx id (box?_lt hB)]; exact hI.pr id B hB hf
    box := fun id B hB => by
      rcases hboxes id B hB with ⟨rfl, rfl⟩ | ⟨_, hB⟩
      · rw [hnew]; exact ⟨arr, hb, VL_mono0 hL _ _ hl⟩
      · rw [hbx id (box?_lt hB)]; exact (hI.box id B hB).mono0 hL rfl
    inj := fun i j A B hA hB la lb he => by
      rcases hboxes i A hA with ⟨rfl, rfl⟩ | ⟨_, hA⟩ <;> rcases hboxes j B hB with ⟨rfl, rfl⟩ | ⟨_, hB⟩
      · rfl
      · rw [hnew, hbx j (box?_lt hB)] at he; exact absurd he.symm (hne j (box?_lt hB))
      · rw [hnew, hbx i (box?_lt hA)] at he; exact absurd he (hne i (box?_lt hA))
      · rw [hbx i (box?_lt hA), hbx j (box?_lt hB)] at he; exact hI.inj i j A B hA hB la lb he
    tlt := hI.tlt
    tall := hI.tall
    tok := fun k t ht => { hI.tok k t ht with }
    tinj := hI.tinj
    btk := fun i B k t hB lb ht he => by
      rcases hboxes i B hB with ⟨rfl, rfl⟩ | ⟨_, hB⟩
      · rw [hnew] at he; exact hnt k (tok?_lt ht) he.symm
      · rw [hbx i (box?_lt hB)] at he; exact hI.btk i B k t hB lb ht he }

theorem Free.mono {g' : G} {s' : St} {w' : World} {b : Nat} (h : Le g s w g' s' w') (hF : Free g s w b) : Free g' s' w' b ∧ w'.heap[b]? = w.heap[b]? := by
  obtain ⟨h1, h2⟩ := h.frame b hF.lt hF.own
  exact ⟨⟨by rw [h.base]; exact hF.base, Nat.lt_of_lt_of_le hF.lt h.size, fun ho => hF.own (h.own b hF.lt ho), by rw [h2]; exact hF.prot⟩, h1⟩

/-- A new block is nobody's. -/
theorem Free.new (hI : Inv CR g s w) (o : Obj) : Free g s (w.alloc o) w.heap.size where
  base := hI.base
  lt := by simp
  own := fun ho => by
    rcases ho with ⟨id, hid, he⟩ | ⟨k, hk, he⟩
    · have := (hI.lt id hid).2; omega
    · have := hI.tall k hk; omega
  prot := hI.fresh _ (Nat.le_refl _)

/-- From a state of old to one in which a younger block has become a box, and has been written. -/
theorem Le.adopt {g0 : G} {s0 : St} {w0 : World} (h : Le g0 s0 w0 g s w) (hI : Inv CR g s w) {b : Nat} (hb : w0.heap.size ≤ b) {B : Box} {g' : G} {s' : St} {w' : World} (k : Le (g.adopt s b) (s.new B) w g' s' w') : Le g0 s0 w0 g' s' w' where
  toLe0 := (h.toLe0.trans (Le0.adopt hI b B)).trans k.toLe0
  own := fun c hc ho => by
    have h1 := k.own c (Nat.lt_of_lt_of_le hc h.size) ho
    refine h.own c hc ?_
    rcases h1 with ⟨id, hid, he⟩ | h1
    · by_cases hn : id = s.nb
      · subst hn; simp [G.adopt] at he; omega
      · exact .inl ⟨id, by simp [St.new] at hid; omega, by simpa [G.adopt, hn] using he⟩
    · exact .inr h1
  frame := fun c hc ho => by
    obtain ⟨h1, h2⟩ := h.frame c hc ho
    have ho2 : ¬ Own (g.adopt s b) (s.new B) c := fun ho2 => by
      rcases ho2 with ⟨id, hid, he⟩ | ho2
      · by_cases hn : id = s.nb
        · subst hn; simp [G.adopt] at he; omega
        · exact ho (h.own c hc (.inl ⟨id, by simp [St.new] at hid; omega, by simpa [G.adopt, hn] using he⟩))
      · exact ho (h.own c hc (.inr ho2))
    obtain ⟨k1, k2⟩ := k.frame c (Nat.lt_of_lt_of_le hc h.size) ho2
    exact ⟨k1.trans h1, k2.trans h2⟩
end Go.Proofs.YtfaodjpibdhdjaaDoor.Am
