/-
  Arithmetic, equality, conversions, lengths, texts gone through.
-/
import Derived.Test.YtfaodjpibdhdjaaDoorAmOps6
set_option linter.all false
set_option linter.unusedVariables false
set_option linter.unusedSimpArgs false
set_option linter.unusedSectionVars false
set_option linter.constructorNameAsVariable false
namespace Go.Proofs.YtfaodjpibdhdjaaDoor.Am
variable {CR : Nat → Code → C → Prop} {P : Program} {g : G} {s s' : St} {w : World}

theorem intOp_ok {op : BinOp} {k : IntKind} {a b : Int} {r : AV} (h : intOp op k a b = some r) (hop : op ≠ .shl ∧ op ≠ .shr) :
    ∀ t, ∃ v, (Go.binOp op t (.int k a) (.int k b)).run P w = .ok v w ∧ V g s w r v := by
  intro t
  cases op <;> simp only [intOp] at h <;> try (cases h; done)
  case quo =>
    by_cases hb : b = 0
    case pos => rw [if_pos hb] at h; cases h
    rw [if_neg hb] at h; cases h
    refine ⟨_, ?_, by simp only [V]; exact rfl⟩
    simp [Go.binOp, Op.intDiv, hb]
  case rem =>
    by_cases hb : b = 0
    case pos => rw [if_pos hb] at h; cases h
    rw [if_neg hb] at h; cases h
    refine ⟨_, ?_, by simp only [V]; exact rfl⟩
    simp [Go.binOp, Op.intDiv, hb]
  all_goals
    cases h
    refine ⟨_, ?_, by simp only [V]; exact rfl⟩
    simp [Go.binOp, Op.intArith, Op.intBits, Op.intCmp]

theorem bin_ok {op : BinOp} {x y r : AV} {xv yv : Value} (hx : V g s w x xv) (hy : V g s w y yv) (h : binOp op x y = some r) :
    ∀ t, ∃ v, (Go.binOp op t xv yv).run P w = .ok v w ∧ V g s w r v := by
  intro t
  unfold binOp at h
  split at h
  · rename_i k a k' b
    simp only [V] at hx hy; subst hx; subst hy
    by_cases hb : b < 0
    case pos => rw [if_pos hb] at h; cases h
    rw [if_neg hb] at h; cases h
    refine ⟨_, ?_, by simp only [V]; exact rfl⟩
    simp only [Go.binOp, Op.shift]
    rw [if_neg hb]; rfl
  · rename_i k a k' b
    simp only [V] at hx hy; subst hx; subst hy
    by_cases hb : b < 0
    case pos => rw [if_pos hb] at h; cases h
    rw [if_neg hb] at h; cases h
    refine ⟨_, ?_, by simp only [V]; exact rfl⟩
    simp only [Go.binOp, Op.shift]
    rw [if_neg hb]; rfl
  · rename_i op k a k' b h1 h2
    simp only [V] at hx hy; subst hx; subst hy
    by_cases hk : k = k'
    case neg => rw [if_neg hk] at h; cases h
    rw [if_pos hk] at h
    subst hk
    exact intOp_ok h ⟨h1, h2⟩ t
  · rename_i a n
    simp only [V] at hx hy
    subst hx
    obtain ⟨z, rfl, hz⟩ := hy
    split at h <;> try (cases h; done)
    rename_i hle
    cases h
    have : ¬ a > z := by omega
    exact ⟨.bool false, by simp [Go.binOp, Op.intCmp, this], by simp only [V]⟩
  · rename_i a b h1 h2 h3
    simp only [V] at hx hy
    obtain ⟨rfl, ha⟩ := hx
    obtain ⟨rfl, hb⟩ := hy
    obtain ⟨v, e1, e2⟩ := strOp_ok (P := P) (g := g) (s := s) (w := w) ha hb h
    refine ⟨v, ?_, e2⟩
    cases op <;> exact e1
  · cases h

theorem un_ok {op : UnOp} {x r : AV} {xv : Value} (hx : V g s w x xv) (h : unOp op x = some r) : ∃ v, (Op.unary op xv).run P w = .ok v w ∧ V g s w r v := by
  unfold unOp at h
  split at h
  · simp only [V] at hx; subst hx; cases h
    exact ⟨_, rfl, by simp only [V]⟩
  · simp only [V] at hx; subst hx
    simp only [intOp] at h; cases h
    exact ⟨_, rfl, by simp only [V]⟩
  · simp only [V] at hx; subst hx; cases h
    exact ⟨_, rfl, by simp only [V]⟩
  · cases h

/-! ### Equality -/
def KindIs (P : Program) (t : Nat) : EK → Prop
  | .bool => P.underlying t = some .bool
  | .ptr => ∃ e n, P.underlying t = some (.pointer e) ∧ sizeT P e = some (n + 1)
  | .sl => ∃ e, P.underlying t = some (.slice e)
  | .mp => ∃ k e, P.underlying t = some (.map k e)
  | .fn => ∃ a b c, P.underlying t = some (.func a b c)
  | .ifc => ∃ m, P.underlying t = some (.interface m)

theorem eqS_ok {x y : AV} {xv yv : Value} {r : Bool} {t : Nat} (hx : V g s w x xv) (hy : V g s w y yv) (ht : KindIs P t .sl) (h : eqv .sl x y = some r) :
    (Op.equal t xv yv).run P w = .ok r w := by
  have hd : Op.maxDepth = 9999 + 1 := rfl
  unfold Op.equal
  rw [hd]
  generalize (9999 : Nat) = d
  obtain ⟨e, h1⟩ := ht
  simp only [eqv, eqS] at h
  split at h <;> (try simp only [V] at hx hy)
  · subst hx; subst hy; cases h; (simp only [Op.equalIn, Sem.run_bind, run_underlying h1, Result.andThen_ok]; try rfl)
  · obtain ⟨_, _, _, _, rfl, _⟩ := hy; subst hx; cases h; (simp only [Op.equalIn, Sem.run_bind, run_underlying h1, Result.andThen_ok]; try rfl)
  · obtain ⟨_, _, _, _, rfl, _⟩ := hx; subst hy; cases h; (simp only [Op.equalIn, Sem.run_bind, run_underlying h1, Result.andThen_ok]; try rfl)
  · rcases hy with ⟨_, hh⟩ | ⟨_, hh⟩ | hy
    · cases hh
    · cases hh
    obtain ⟨_, _, _, _, rfl, _⟩ := hy; subst hx; cases h; (simp only [Op.equalIn, Sem.run_bind, run_underlying h1, Result.andThen_ok]; try rfl)
  · rcases hx with ⟨_, hh⟩ | ⟨_, hh⟩ | hx
    · cases hh
    · cases hh
    obtain ⟨_, _, _, _, rfl, _⟩ := hx; subst hy; cases h; (simp only [Op.equalIn, Sem.run_bind, run_underlying h1, Result.andThen_ok]; try rfl)
  · obtain ⟨_, _, rfl, _⟩ := hy; subst hx; cases h; (simp only [Op.equalIn, Sem.run_bind, run_underlying h1, Result.andThen_ok]; try rfl)
  · obtain ⟨_, _, rfl, _⟩ := hx; subst hy; cases h; (simp only [Op.equalIn, Sem.run_bind, run_underlying h1, Result.andThen_ok]; try rfl)
  · obtain ⟨_, rfl⟩ := hy; subst hx; cases h; (simp only [Op.equalIn, Sem.run_bind, run_underlying h1, Result.andThen_ok]; try rfl)
  · obtain ⟨_, rfl⟩ := hx; subst hy; cases h; (simp only [Op.equalIn, Sem.run_bind, run_underlying h1, Result.andThen_ok]; try rfl)
  · cases h

theorem eqv_ok {k : EK} {x y : AV} {xv yv : Value} {r : Bool} {t : Nat} (hx : V g s w x xv) (hy : V g s w y yv) (ht : KindIs P t k) (h : eqv k x y = some r) :
    (Op.equal t xv yv).run P w = .ok r w := by
  by_cases hk : k = .sl
  · subst hk; exact eqS_ok hx hy ht h
  have hd : Op.maxDepth = 9999 + 1 := rfl
  unfold Op.equal
  rw [hd]
  generalize (9999 : Nat) = d
  cases k with
  | bool =>
    simp only [eqv, eqB] at h
    split at h
    · simp only [V] at hx hy; subst hx; subst hy
      cases h
      simp only [KindIs] at ht
      (simp only [Op.equalIn, Sem.run_bind, run_underlying ht, Result.andThen_ok]; try rfl)
    · cases h
  | ptr =>
    obtain ⟨e, n, h1, h2⟩ := ht
    simp only [eqv, eqP] at h
    split at h <;> (try simp only [V] at hx hy)
    · subst hx; subst hy; cases h; (simp only [Op.equalIn, Sem.run_bind, run_underlying h1, Result.andThen_ok]; try rfl)
    · obtain ⟨_, rfl⟩ := hy; subst hx; cases h; (simp only [Op.equalIn, Sem.run_bind, run_underlying h1, Result.andThen_ok]; try rfl)
    · obtain ⟨_, rfl⟩ := hx; subst hy; cases h; (simp only [Op.equalIn, Sem.run_bind, run_underlying h1, Result.andThen_ok]; try rfl)
    · obtain ⟨_, _, _, rfl, _⟩ := hy; subst hx; cases h; (simp only [Op.equalIn, Sem.run_bind, run_underlying h1, Result.andThen_ok]; try rfl)
    · obtain ⟨_, _, _, rfl, _⟩ := hx; subst hy; cases h; (simp only [Op.equalIn, Sem.run_bind, run_underlying h1, Result.andThen_ok]; try rfl)
    · rename_i a o b q
      by_cases hab : a = b
      case neg => rw [if_neg hab] at h; cases h
      rw [if_pos hab] at h
      subst hab
      cases h
      obtain ⟨_, rfl⟩ := hx
      obtain ⟨_, rfl⟩ := hy
      have e1 : ((⟨g.bx a, o, none⟩ : Addr) == ⟨g.bx a, q, none⟩) = Nat.beq o q := by
        by_cases hoq : o = q
        · subst hoq; rw [Nat.beq_refl]; exact beq_self_eq_true _
        · have h1 : Nat.beq o q = false := by
            cases hb : Nat.beq o q with
            | false => rfl
            | true => exact absurd (Nat.eq_of_beq_eq_true hb) hoq
          rw [h1, beq_eq_false_iff_ne]
          intro hh; cases hh; exact hoq rfl
      simp only [Op.equalIn, Sem.run_bind, run_underlying h1, Result.andThen_ok]
      simp only [Sem.run_bind, run_sizeOf h2, Result.andThen_ok]
      rw [if_pos (Nat.succ_ne_zero n)]
      simp [sameAddr, e1]
    · cases h
  | sl => exact absurd rfl hk
  | mp =>
    obtain ⟨q, e, h1⟩ := ht
    simp only [eqv, eqM] at h
    split at h <;> (try simp only [V] at hx hy)
    · subst hx; subst hy; cases h; (simp only [Op.equalIn, Sem.run_bind, run_underlying h1, Result.andThen_ok]; try rfl)
    · obtain ⟨_, rfl⟩ := hy; subst hx; cases h; (simp only [Op.equalIn, Sem.run_bind, run_underlying h1, Result.andThen_ok]; try rfl)
    · obtain ⟨_, rfl⟩ := hx; subst hy; cases h; (simp only [Op.equalIn, Sem.run_bind, run_underlying h1, Result.andThen_ok]; try rfl)
    · cases h
  | fn =>
    obtain ⟨a, b, c, h1⟩ := ht
    simp only [eqv, eqF] at h
    split at h <;> (try simp only [V] at hx hy)
    · subst hx; subst hy; cases h; (simp only [Op.equalIn, Sem.run_bind, run_underlying h1, Result.andThen_ok]; try rfl)
    · obtain ⟨_, _, rfl⟩ := hy; subst hx; cases h; (simp only [Op.equalIn, Sem.run_bind, run_underlying h1, Result.andThen_ok]; try rfl)
    · obtain ⟨_, _, rfl⟩ := hx; subst hy; cases h; (simp only [Op.equalIn, Sem.run_bind, run_underlying h1, Result.andThen_ok]; try rfl)
    · obtain ⟨_, rfl⟩ := hy; subst hx; cases h; (simp only [Op.equalIn, Sem.run_bind, run_underlying h1, Result.andThen_ok]; try rfl)
    · obtain ⟨_, rfl⟩ := hx; subst hy; cases h; (simp only [Op.equalIn, Sem.run_bind, run_underlying h1, Result.andThen_ok]; try rfl)
    · cases h
  | ifc =>
    obtain ⟨m, h1⟩ := ht
    simp only [eqv, eqI] at h
    split at h <;> (try simp only [V] at hx hy)
    · subst hx; subst hy; cases h; (simp only [Op.equalIn, Sem.run_bind, run_underlying h1, Result.andThen_ok]; try rfl)
    · obtain ⟨_, _, rfl⟩ := hy; subst hx; cases h; (simp only [Op.equalIn, Sem.run_bind, run_underlying h1, Result.andThen_ok]; try rfl)
    · obtain ⟨_, _, rfl⟩ := hx; subst hy; cases h; (simp only [Op.equalIn, Sem.run_bind, run_underlying h1, Result.andThen_ok]; try rfl)
    · cases h

/-! ### Lengths -/
theorem len_sl {t e : Nat} {c : Array TypeId} {ty : TypeId} {x r : AV} {xv : Value} (hc : c[0]? = some t) (hu : P.underlying t = some (.slice e)) (hx : V g s w x xv) (h : lenA s 1 x = some r) :
    ∃ v, (Builtin.len_ c ty #[xv]).run P w = .ok v w ∧ V g s w r v := by
  have a0 : (#[xv] : Array Value)[0]? = some xv := rfl
  unfold lenA at h
  cases x <;> simp only at h <;> try (cases h; done)
  · cases h
    simp only [V] at hx; subst hx
    exact ⟨goInt 0, by simp only [Builtin.len_, hc, a0, Sem.run_bind, run_underlying hu, Result.andThen_ok]; rfl, by simp [V, goInt]⟩
  · cases h
    simp only [V] at hx
    obtain ⟨b, o, cap, vs, rfl, _⟩ := hx
    exact ⟨goInt _, by simp only [Builtin.len_, hc, a0, Sem.run_bind, run_underlying hu, Result.andThen_ok]; rfl, by simp [V, goInt]⟩
  · cases h
    simp only [V] at hx
    rcases hx with ⟨rfl, rfl⟩ | ⟨⟨_, rfl⟩, rfl⟩ | ⟨b, o, cap, vs, rfl, _⟩
    · exact ⟨goInt 0, by simp only [Builtin.len_, hc, a0, Sem.run_bind, run_underlying hu, Result.andThen_ok]; rfl, by simp [V, goInt]⟩
    · exact ⟨goInt 0, by simp only [Builtin.len_, hc, a0, Sem.run_bind, run_underlying hu, Result.andThen_ok]; rfl, by simp [V, goInt]⟩
    · exact ⟨goInt _, by simp only [Builtin.len_, hc, a0, Sem.run_bind, run_underlying hu, Result.andThen_ok]; rfl, by simp [V, goInt]⟩
  · cases h
    simp only [V] at hx
    obtain ⟨o, cap, rfl, _⟩ := hx
    exact ⟨goInt _, by simp only [Builtin.len_, hc, a0, Sem.run_bind, run_underlying hu, Result.andThen_ok]; rfl, by simp [V, goInt]⟩
  · cases h
    simp only [V] at hx
    obtain ⟨a, rfl⟩ := hx
    exact ⟨goInt 0, by simp only [Builtin.len_, hc, a0, Sem.run_bind, run_underlying hu, Result.andThen_ok]; rfl, by simp [V, goInt]⟩
theorem len_ok {k : Nat} {t : Nat} {c : Array TypeId} {ty : TypeId} {x r : AV} {xv : Value} (hI : Inv CR g s w) (hc : c[0]? = some t) (hk : (k = 0 ∧ P.underlying t = some .string) ∨ (k = 1 ∧ ∃ e, P.underlying t = some (.slice e)) ∨ (k = 2 ∧ ∃ q e, P.underlying t = some (.map q e)))
    (hx : V g s w x xv) (h : lenA s k x = some r) :
    ∃ v, (Builtin.len_ c ty #[xv]).run P w = .ok v w ∧ V g s w r v := by
  have a0 : (#[xv] : Array Value)[0]? = some xv := rfl
  rcases hk with ⟨rfl, hu⟩ | ⟨rfl, e, hu⟩ | ⟨rfl, q, e, hu⟩
  · unfold lenA at h
    cases x <;> simp only at h <;> try (cases h; done)
    cases h
    simp only [V] at hx
    obtain ⟨rfl, _⟩ := hx
    exact ⟨goInt (bytesOf _).size, by simp only [Builtin.len_, hc, a0, Sem.run_bind, run_underlying hu, Result.andThen_ok]; rfl, by simp only [V, goInt, bytes_size]; rfl⟩
  · exact len_sl hc hu hx h
  · unfold lenA at h
    cases x <;> simp only at h <;> try (cases h; done)
    · cases h
      simp only [V] at hx; subst hx
      exact ⟨goInt 0, by simp only [Builtin.len_, hc, a0, Sem.run_bind, run_underlying hu, Result.andThen_ok]; rfl, by simp [V, goInt]⟩
    · rename_i id
      cases hb : s.box? id with
      | none => simp [hb] at h
      | some B =>
        cases B <;> simp only [hb] at h <;> try (cases h; done)
        rename_i es
        cases h
        simp only [V] at hx
        obtain ⟨_, rfl⟩ := hx
        obtain ⟨ents, clock, h1, h2⟩ := hI.box id _ hb
        have : ∀ {l : List (AV × AV)} {e : List MapEntry}, VM g s w l e → e.length = l.length := by
          intro l
          induction l with
          | nil => intro e h; simp only [VM] at h; subst h; rfl
          | cons x l ih => intro e h; obtain ⟨_, r, rfl, _, _, h⟩ := h; simp [ih h]
        have hlen := this h2
        refine ⟨goInt ents.size, ?_, by simp only [V, goInt]; congr 1; simp at hlen; rw [hlen]; rfl⟩
        simp only [Builtin.len_, hc, a0, Sem.run_bind, run_underlying hu, Result.andThen_ok, getObj, Sem.run, h1]; rfl

theorem mm_ok {mx : Bool} {c : Array TypeId} {ty : TypeId} {k k' : IntKind} {a b : Int} {xv yv : Value} (hx : V g s w (.i k a) xv) (hy : V g s w (.i k' b) yv) :
    ((if mx then Builtin.max_ c ty #[xv, yv] else Builtin.min_ c ty #[xv, yv])).run P w = .ok (.int k (if mx then (if b > a then b else a) else (if b < a then b else a))) w := by
  simp only [V] at hx hy
  subst hx; subst hy
  cases mx <;> rfl
end Go.Proofs.YtfaodjpibdhdjaaDoor.Am
