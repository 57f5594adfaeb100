/-
  The machine with a table of calls that are known: a long run is cut into short ones.
-/
import Derived.Test.YtcdbpkfbnhjgdaaGreatDoorAmLim
import Derived.Test.YtcdbpkfbnhjgdaaGreatDoorAmBeq
import Derived.Test.YtcdbpkfbnhjgdaaGreatDoorAmLaw
set_option linter.all false
set_option linter.unusedVariables false
set_option linter.unusedSimpArgs false
set_option linter.unusedSectionVars false
set_option linter.constructorNameAsVariable false
namespace Go.Proofs.YtcdbpkfbnhjgdaaGreatDoor.Am

structure Ent where
  args : List AV
  s : St
  r : AV
  s' : St

def findE : List Ent → List AV → St → Option (AV × St)
  | [], _, _ => none
  | x :: l, a, s => cond (beqSt x.s s && beqAL x.args a) (some (x.r, x.s')) (findE l a s)
def findT : List (Nat × List Ent) → Nat → List AV → St → Option (AV × St)
  | [], _, _, _ => none
  | (g, l) :: t, f, a, s => cond (Nat.beq g f) (findE l a s) (findT t f a s)

def runM (tb : List (Nat × List Ent)) (prog : Nat → Option Fun) : Nat → Self
  | 0 => dead
  | n + 1 => {
      call := fun f a s => match findT tb f a s with
        | some r => some r
        | none => callF prog (runM tb prog n) f a s
      code := evC (runM tb prog n) }

section
variable {prog : Nat → Option Fun}
def Ent.ok (prog : Nat → Option Fun) (f : Nat) (x : Ent) : Prop := (lim prog).call f x.args x.s = some (x.r, x.s')
def GoodE (prog : Nat → Option Fun) (f : Nat) : List Ent → Prop
  | [] => True
  | x :: l => x.ok prog f ∧ GoodE prog f l
def GoodT (prog : Nat → Option Fun) : List (Nat × List Ent) → Prop
  | [] => True
  | (f, l) :: t => GoodE prog f l ∧ GoodT prog t

theorem findE_ok {f : Nat} {r : AV × St} : ∀ {l : List Ent} {a : List AV} {s : St}, GoodE prog f l → findE l a s = some r → (lim prog).call f a s = some r
  | [], _, _, _, h => by simp [findE] at h
  | x :: l, a, s, hg, h => by
    simp only [findE] at h
    cases hb : beqSt x.s s && beqAL x.args a with
    | false => rw [hb] at h; exact findE_ok hg.2 h
    | true =>
      rw [hb] at h
      simp only [Bool.and_eq_true] at hb
      rw [← beqSt_eq hb.1, ← beqAL_eq _ _ hb.2]
      simp only [cond_true] at h
      rw [← h]
      exact hg.1
theorem findT_ok {f : Nat} {r : AV × St} : ∀ {t : List (Nat × List Ent)} {a : List AV} {s : St}, GoodT prog t → findT t f a s = some r → (lim prog).call f a s = some r
  | [], _, _, _, h => by simp [findT] at h
  | (g, l) :: t, a, s, hg, h => by
    simp only [findT] at h
    cases hb : Nat.beq g f with
    | false => rw [hb] at h; exact findT_ok hg.2 h
    | true =>
      rw [hb] at h
      rw [← Nat.eq_of_beq_eq_true hb]
      exact findE_ok hg.1 h

theorem runM_sub {tb : List (Nat × List Ent)} (hg : GoodT prog tb) : ∀ n, Sub (runM tb prog n) (lim prog)
  | 0 => ⟨fun hr => by simp [runM, dead] at hr, fun hr => by simp [runM, dead] at hr⟩
  | n + 1 => ⟨fun {f a s r} hr => by
      simp only [runM] at hr
      split at hr
      · cases hr; rename_i h; exact findT_ok hg h
      · rw [lim_call]; exact callF_mono (runM_sub hg n) hr,
    fun {c e s r} hr => by
      simp only [runM] at hr
      rw [lim_code]; exact evC_mono (runM_sub hg n) hr⟩

def isR (r : AV) (s' : St) : Option (AV × St) → Bool
  | some (v, s) => beqA v r && beqSt s s'
  | none => false
theorem isR_eq {r : AV} {s' : St} {o : Option (AV × St)} (h : isR r s' o = true) : o = some (r, s') := by
  unfold isR at h
  split at h
  · simp only [Bool.and_eq_true] at h
    rw [beqA_eq _ _ h.1, beqSt_eq h.2]
  · cases h

/-- One row more of the table: its call, run with the rows that stand already. -/
theorem ent_ok {f : Nat} {x : Ent} (tb : List (Nat × List Ent)) (n : Nat) (hg : GoodT prog tb) (h : isR x.r x.s' ((runM tb prog n).call f x.args x.s) = true) : x.ok prog f :=
  (runM_sub hg n).call (isR_eq h)
/-- A law's call. -/
theorem law_ev {f : Nat} {s' : St} (h : (lim prog).call f [] s0 = some (.b true, s')) : ∃ n s', (run prog n).call f [] s0 = some (.b true, s') := by
  obtain ⟨n, h⟩ := lim_call_iff.1 h
  exact ⟨n, s', h⟩
end
end Go.Proofs.YtcdbpkfbnhjgdaaGreatDoor.Am
