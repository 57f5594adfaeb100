/-
  Functions that are told by a contract: what they tell, and that they may be told so.
-/
import Derived.Test.YtfaodjpibdhdjaaDoorAmSound
import Derived.Shelf.Strings.OnBuilder
set_option linter.all false
set_option linter.unusedVariables false
set_option linter.unusedSimpArgs false
set_option linter.unusedSectionVars false
set_option linter.constructorNameAsVariable false
namespace Go.Proofs.YtfaodjpibdhdjaaDoor.Am
variable {P : Program} {gt : Nat → Option (List AV)} {g : G} {s : St} {w : World}

def txtL : List AV → Option (List (List Nat))
  | [] => some []
  | .s l :: r => match txtL r with
    | some L => some (l :: L)
    | none => none
  | _ => none
/-- A slice of texts. -/
def txtsOf : AV → Option (List (List Nat))
  | .nsl => some []
  | .sl 1 xs .full => txtL xs
  | .sl 1 xs .shut => txtL xs
  | .ws _ 1 xs => txtL xs
  | _ => none

theorem txtL_tx : ∀ L : List (List Nat), txtL (L.map .s) = some L
  | [] => rfl
  | l :: L => by simp only [List.map_cons, txtL, txtL_tx L]

theorem txtL_ok : ∀ {xs : List AV} {L : List (List Nat)} {vs : List Value}, txtL xs = some L → VL g s w xs vs → xs.length = L.length ∧ flat vs = vs ∧ vs = L.map (fun l => .string (bytesOf l)) ∧ ∀ l ∈ L, ∀ n ∈ l, n < 256
  | [], L, vs, h, hv => by
    simp only [txtL] at h; cases h
    simp only [VL] at hv; subst hv
    exact ⟨rfl, rfl, rfl, by simp⟩
  | a :: r, L, vs, h, hv => by
    cases a <;> simp only [txtL] at h <;> try (cases h; done)
    rename_i l
    cases hr : txtL r with
    | none => rw [hr] at h; cases h
    | some L' =>
      rw [hr] at h; cases h
      simp only [VL, V] at hv
      obtain ⟨v, vs', rfl, ⟨rfl, hl⟩, hv'⟩ := hv
      obtain ⟨h1, h2, h3, h4⟩ := txtL_ok hr hv'
      refine ⟨by simp [h1], ?_, by simp [← h3], ?_⟩
      · simp only [flat, List.flatMap_cons] at h2 ⊢
        rw [h2]; simp [Value.cells]
      · intro l' hl'
        rcases List.mem_cons.1 hl' with rfl | hl'
        · exact hl
        · exact h4 l' hl'

/-- Where the texts of a slice lie. -/
theorem txts_ok {x : AV} {L : List (List Nat)} {v : Value} (h : txtsOf x = some L) (hv : V g s w x v) :
    (∀ l ∈ L, ∀ n ∈ l, n < 256) ∧ ((L = [] ∧ ∃ a c, v = .slice a 0 c) ∨ ∃ b o c, v = .slice (some ⟨b, o, none⟩) L.length c ∧ L.length ≤ c ∧ (∀ (j : Nat) (l : List Nat), L[j]? = some l → w.cell? ⟨b, o + j, none⟩ = some (.string (bytesOf l))) ∧ (L ≠ [] → b < w.heap.size)) := by
  have key : ∀ {xs : List AV} {m : Cap}, m = .full ∨ m = .shut → txtL xs = some L → V g s w (.sl 1 xs m) v →
      (∀ l ∈ L, ∀ n ∈ l, n < 256) ∧ ((L = [] ∧ ∃ a c, v = .slice a 0 c) ∨ ∃ b o c, v = .slice (some ⟨b, o, none⟩) L.length c ∧ L.length ≤ c ∧ (∀ (j : Nat) (l : List Nat), L[j]? = some l → w.cell? ⟨b, o + j, none⟩ = some (.string (bytesOf l))) ∧ (L ≠ [] → b < w.heap.size)) := by
    intro xs m hm ht hv
    simp only [V] at hv
    obtain ⟨b, o, cap, vs, rfl, hz, _, _, hv⟩ := hv
    obtain ⟨k1, k2, _, _⟩ := hv (by rcases hm with rfl | rfl <;> rfl)
    obtain ⟨h1, h2, h3, h4⟩ := txtL_ok ht k1
    rw [h2, h3] at k2
    have hc : ∀ (j : Nat) (l : List Nat), L[j]? = some l → w.cell? ⟨b, o + j, none⟩ = some (.string (bytesOf l)) := fun j l hj => k2 j _ (by simp [hj])
    refine ⟨h4, .inr ⟨b, o, cap, by rw [h1], by omega, hc, fun hne => ?_⟩⟩
    cases L with
    | nil => exact absurd rfl hne
    | cons l L => exact World.block_lt_of_cell? _ _ (hc 0 l rfl)
  unfold txtsOf at h
  split at h <;> try (cases h; done)
  · cases h
    simp only [V] at hv; subst hv
    exact ⟨by simp, .inl ⟨rfl, _, _, rfl⟩⟩
  · exact key (.inl rfl) h hv
  · exact key (.inr rfl) h hv
  · rename_i f xs
    rcases V_ws.1 hv with ⟨hv', rfl⟩ | ⟨hv', rfl⟩ | hv'
    · simp only [txtL] at h; cases h
      simp only [V] at hv'; subst hv'
      exact ⟨by simp, .inl ⟨rfl, _, _, rfl⟩⟩
    · simp only [txtL] at h; cases h
      simp only [V] at hv'; obtain ⟨a, rfl⟩ := hv'
      exact ⟨by simp, .inl ⟨rfl, _, _, rfl⟩⟩
    · exact key (by cases f <;> simp [capM]) h hv'

def joinN (sep : List Nat) : List (List Nat) → List Nat
  | [] => []
  | [a] => a
  | a :: b :: L => a ++ (sep ++ joinN sep (b :: L))

theorem joinN_map (sep : List Nat) : ∀ L : List (List Nat), Lib.join (L.map fun l => l.map UInt8.ofNat) (sep.map UInt8.ofNat) = (joinN sep L).map UInt8.ofNat
  | [] => rfl
  | [a] => by simp [Lib.join_one, joinN]
  | a :: b :: L => by
    have ih := joinN_map sep (b :: L)
    simp only [List.map_cons] at ih ⊢
    rw [Lib.join_cons] at ih ⊢
    simp only [joinN, List.map_append, ← ih, Lib.joinTail, List.map_cons, List.flatten_cons, List.append_assoc]

theorem joinN_lt {sep : List Nat} (hs : ∀ n ∈ sep, n < 256) : ∀ {L : List (List Nat)}, (∀ l ∈ L, ∀ n ∈ l, n < 256) → ∀ n ∈ joinN sep L, n < 256
  | [], _, n, h => by simp [joinN] at h
  | [a], hL, n, h => hL a (by simp) n h
  | a :: b :: L, hL, n, h => by
    simp only [joinN, List.mem_append] at h
    rcases h with h | h | h
    · exact hL a (by simp) n h
    · exact hs n h
    · exact joinN_lt hs (fun l hl => hL l (List.mem_cons_of_mem _ hl)) n h

def primJoin : List AV → Option AV
  | [x, .s sep] => match txtsOf x with
    | some L => if L.length ≤ 2 ^ 47 ∧ (joinN sep L).length ≤ 2 ^ 47 then some (.s (joinN sep L)) else none
    | none => none
  | _ => none

theorem V_s {l : List Nat} (hl : ∀ n ∈ l, n < 256) (g : G) (s : St) (w : World) : V g s w (.s l) (.string (bytesOf l)) := by simp only [V]; exact ⟨trivial, hl⟩

theorem primJoin_ok {f : Nat} (hb : ∃ F b, P.funcs[f]? = some F ∧ F.body = some b)
    (h0 : ∀ (a : Option Addr) (c : Nat) (sep : ByteArray) (w : World), Calls P f #[.slice a 0 c, .string sep] w fun e w' => e = .returned (.string ⟨#[]⟩) ∧ w' = w)
    (h1 : ∀ (bk o c : Nat) (xs : List ByteArray) (sep : ByteArray) (w : World), (∀ (j : Nat) x, xs[j]? = some x → w.cell? ⟨bk, o + j, none⟩ = some (.string x)) → bk < w.heap.size → xs.length ≤ 140737488355328 → xs.length ≤ c → (Lib.join (xs.map (·.data.toList)) sep.data.toList).length ≤ 140737488355328 →
      Calls P f #[.slice (some ⟨bk, o, none⟩) xs.length c, .string sep] w fun e w' => e = .returned (.string ⟨(Lib.join (xs.map (·.data.toList)) sep.data.toList).toArray⟩) ∧ RowKit.Below w.heap.size w w') : PrimOk P gt f primJoin := by
  refine ⟨hb, ?_⟩
  intro args r hr g s w vs _ hv
  unfold primJoin at hr
  split at hr <;> try (cases hr; done)
  rename_i x sep
  split at hr <;> try (cases hr; done)
  rename_i L hL
  split at hr <;> try (cases hr; done)
  rename_i hlen
  cases hr
  simp only [VL] at hv
  obtain ⟨v, _, rfl, hx, u, _, rfl, hs, rfl⟩ := hv
  simp only [V] at hs
  obtain ⟨rfl, hsl⟩ := hs
  obtain ⟨hlt, hcase⟩ := txts_ok hL hx
  have hres := V_s (joinN_lt hsl hlt)
  rcases hcase with ⟨rfl, a, c, rfl⟩ | ⟨b, o, c, rfl, hc, hcell, hbk⟩
  · refine (h0 a c (bytesOf sep) w).mono ?_
    rintro e w' ⟨rfl, rfl⟩
    exact ⟨_, rfl, hres, ⟨rfl, rfl, Nat.le_refl _, fun _ _ => rfl⟩⟩
  · by_cases hn : L = []
    · subst hn
      refine (h0 _ c (bytesOf sep) w).mono ?_
      rintro e w' ⟨rfl, rfl⟩
      exact ⟨_, rfl, hres, ⟨rfl, rfl, Nat.le_refl _, fun _ _ => rfl⟩⟩
    · have hm : (L.map bytesOf).map (·.data.toList) = L.map fun l => l.map UInt8.ofNat := by simp [bytesOf, Function.comp_def]
      have hj : (Lib.join ((L.map bytesOf).map (·.data.toList)) (bytesOf sep).data.toList) = (joinN sep L).map UInt8.ofNat := by
        rw [hm, ← joinN_map]; simp [bytesOf]
      have := h1 b o c (L.map bytesOf) (bytesOf sep) w (fun j x hj => by
        simp only [List.getElem?_map, Option.map_eq_some_iff] at hj
        obtain ⟨l, hl, rfl⟩ := hj
        exact hcell j l hl) (hbk hn) (by simpa using hlen.1) (by simpa using hc) (by rw [hj]; simpa using hlen.2)
      rw [List.length_map] at this
      refine this.mono ?_
      rintro e w' ⟨rfl, hbel⟩
      refine ⟨_, rfl, fun g' s' w'' => ?_, ?_⟩
      · rw [hj]; exact hres g' s' w''
      · exact ⟨hbel.os, hbel.output, hbel.size, fun k hk => hbel.block k hk⟩
end Go.Proofs.YtfaodjpibdhdjaaDoor.Am
