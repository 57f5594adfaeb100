/-
  Fields, indexes, arithmetic, conversions.
-/
import Derived.Test.YtfaodjpibdhdjaaDoorAmOps5
import Derived.Laws.Strings
set_option linter.all false
set_option linter.unusedVariables false
set_option linter.unusedSimpArgs false
set_option linter.unusedSectionVars false
set_option linter.constructorNameAsVariable false
namespace Go.Proofs.YtfaodjpibdhdjaaDoor.Am
variable {CR : Nat → Code → C → Prop} {P : Program} {g : G} {s s' : St} {w : World}

/-! ### Fields and indexes -/
/-- An address further on. -/
def addOff (n : Nat) : AV → Option AV
  | .p id o => some (.p id (o + n))
  | .ep l o m => some (.ep l (o + n) m)
  | _ => none

theorem fa_ok {t f n : Nat} {fs : Array Field} {fl : Field} (hu : P.underlying t = some (.struct fs)) (hf : fs[f]? = some fl) (hn : sizeT P fl.type = some (n + 1)) {x r : AV} {xv : Value} (hx : V g s w x xv)
    (h : addOff fl.offset x = some r) :
    ∃ v, (Instr.fieldAt t xv f).run P w = .ok v w ∧ V g s w r v := by
  have run : ∀ b o : Nat, (Instr.fieldAt t (.pointer (some ⟨b, o, none⟩)) f).run P w = .ok (.pointer (some ⟨b, o + fl.offset, none⟩)) w := by
    intro b o
    simp [Instr.fieldAt, run_underlying hu, hf, Instr.sureAddr, fieldPlace, run_sizeOf hn, addr_add]
  cases x <;> simp only [addOff] at h <;> try (cases h; done)
  case p id o =>
    cases h
    simp only [V] at hx
    obtain ⟨h1, rfl⟩ := hx
    exact ⟨_, run _ _, by simp only [V]; exact ⟨h1, trivial⟩⟩
  case ep l o m =>
    cases h
    simp only [V] at hx
    obtain ⟨b, o', cs, rfl, h1, h2⟩ := hx
    exact ⟨_, run _ _, by simp only [V]; exact ⟨b, o', cs, by rw [Nat.add_assoc], h1, h2⟩⟩

theorem run_part {t n : Nat} {agg : Bool} (ha : aggOf P t = some agg) (hn : sizeT P t = some n) {l m : List AV} {cs : List Value} {off : Nat} {r : AV} (hV : VL g s w l cs) (hc : cut l off n = some m) (hr : scal agg m = some r) :
    ∃ v, (part t cs.toArray off).run P w = .ok v w ∧ V g s w r v := by
  obtain ⟨h1, h2, h3⟩ := VL_cut hV hc
  cases agg with
  | true =>
    simp only [scal] at hr
    cases hr
    refine ⟨.agg ((cs.drop off).take n).toArray, ?_, by simp only [V]; exact ⟨_, h1, rfl⟩⟩
    simp only [part, Sem.run_bind, run_isAgg ha, Result.andThen_ok, if_true, run_sizeOf hn, Sem.run_pure]
    congr 2
    apply Array.toList_inj.1
    simp
  | false =>
    match m, hr with
    | [a], hr =>
      simp only [scal] at hr
      cases hr
      simp only [VL] at h1
      obtain ⟨v, r', he, hv, rfl⟩ := h1
      refine ⟨v, ?_, hv⟩
      have hn1 : n = 1 := by simpa using h2.symm
      subst hn1
      have h0 : cs[off]? = some v := by
        have : ((cs.drop off).take 1)[0]? = some v := by rw [he]; rfl
        simpa using this
      simp [part, run_isAgg ha, h0]

theorem fld_ok {t f n : Nat} {agg : Bool} {fs : Array Field} {fl : Field} (hu : P.underlying t = some (.struct fs)) (hf : fs[f]? = some fl) (ha : aggOf P fl.type = some agg) (hn : sizeT P fl.type = some n) {l m : List AV} {xv : Value} {r : AV}
    (hx : V g s w (.agg l) xv) (hc : cut l fl.offset n = some m) (hr : scal agg m = some r) : ∃ v, (Instr.field t xv f).run P w = .ok v w ∧ V g s w r v := by
  simp only [V] at hx
  obtain ⟨vs, h1, rfl⟩ := hx
  obtain ⟨v, e1, e2⟩ := run_part ha hn h1 hc hr
  exact ⟨v, by simp [Instr.field, run_underlying hu, hf, asAgg, e1], e2⟩

theorem ia_ok {t e es n : Nat} (hu : P.underlying t = some (.slice e)) (hn : sizeT P e = some es) {xs : List AV} {m : Cap} {xv iv : Value} {i v : AV} (hx : V g s w (.sl es xs m) xv) (hi : V g s w i iv) (hin : natOf i = some n) (hv : xs[n]? = some v) :
    ∃ r, (Instr.indexAt t xv iv).run P w = .ok r w ∧ V g s w (.ep v.cells 0 m) r := by
  obtain ⟨k, rfl⟩ := natOf_ok hi hin
  simp only [V] at hx
  obtain ⟨b, o, cap, vs, rfl, h1, h2, h3, h4⟩ := hx
  have hlt : n < xs.length := by rcases List.getElem?_eq_some_iff.1 hv with ⟨h, _⟩; exact h
  refine ⟨.pointer (some ⟨b, o + n * es, none⟩), ?_, ?_⟩
  · have hm : (match (TypeDesc.slice e : TypeDesc) with | .array .. => true | _ => false) = false := rfl
    simp only [Instr.indexAt, Sem.run_bind, run_asIntOf, Result.andThen_ok, run_underlying hu, Sem.run_pure]
    rw [if_pos ⟨by omega, by omega⟩]
    simp [run_sizeOf hn, addr_add]
  · simp only [V]
    by_cases hok : s.ok m = true
    · obtain ⟨k1, k2, k3, k4⟩ := h4 hok
      obtain ⟨u, hu1, hu2⟩ := VL_get k1 hv
      have hel : flat (vs.drop n) = u.cells.toList ++ flat (vs.drop (n + 1)) := by
        rw [← flat_cons]
        congr 1
        rcases List.getElem?_eq_some_iff.1 hu1 with ⟨hl, rfl⟩
        exact List.drop_eq_getElem_cons hl
      have hlen : u.cells.toList.length = es := by
        have h5 := V_size hu2
        have : ∀ {l : List AV} {j : Nat} {a : AV}, allLen es l = true → l[j]? = some a → a.cells.length = es := by
          intro l
          induction l with
          | nil => intro j a _ hj; simp at hj
          | cons x l ih =>
            intro j a hal hj
            simp only [allLen, Bool.and_eq_true] at hal
            cases j with
            | zero => simp at hj; subst hj; exact Nat.eq_of_beq_eq_true hal.1.1
            | succ j => exact ih hal.2 (by simpa using hj)
        rw [Array.length_toList, h5, this h2 hv]
      refine ⟨b, o + n * es, u.cells.toList, rfl, h3, fun _ => ⟨V_cells hu2, ?_, ?_⟩⟩
      · intro j x hj
        have hlt2 : j < u.cells.toList.length := by rcases List.getElem?_eq_some_iff.1 hj with ⟨h, _⟩; exact h
        have h6 : (flat vs)[n * es + j]? = some x := by
          have : (flat (vs.drop n))[j]? = some x := by rw [hel, List.getElem?_append_left hlt2]; exact hj
          rw [flat_drop n k1 h2, List.getElem?_drop] at this
          exact this
        have := k2 (n * es + j) x h6
        rw [show o + n * es + j = o + (n * es + j) by omega]; exact this
      · rw [hlen]
        have hmul : n * es + es ≤ xs.length * es := by
          have := Nat.mul_le_mul_right es (show n + 1 ≤ xs.length from hlt)
          rw [Nat.add_mul] at this; omega
        cases m with
        | full => rcases k3 with k3 | k3; exact .inl k3; exact .inr (by omega)
        | shut => rcases k3 with k3 | k3; exact .inl k3; exact .inr (by omega)
        | tok k u =>
          rcases k3 with (k3 | k3) | ⟨t1, ht1, hb, hle⟩
          · exact .inl (.inl k3)
          · exact .inl (.inr (by omega))
          · exact .inr ⟨t1, ht1, hb, by omega⟩
    · exact ⟨b, o + n * es, [], rfl, h3, fun h => absurd h hok⟩

theorem iaB_ok {t e es n id off m : Nat} {y : Nat × Bool} (hu : P.underlying t = some (.slice e)) (hn : sizeT P e = some es) {xv iv : Value} {i : AV} (hx : V g s w (.bl id es off m y) xv) (hi : V g s w i iv) (hin : natOf i = some n) (hlt : n < m) :
    ∃ r, (Instr.indexAt t xv iv).run P w = .ok r w ∧ V g s w (.p id (off + n * es)) r := by
  obtain ⟨k, rfl⟩ := natOf_ok hi hin
  simp only [V] at hx
  obtain ⟨o, cap, rfl, hid, hz, _, hoff, _⟩ := hx
  rw [hoff (by omega)]
  refine ⟨.pointer (some ⟨g.bx id, off + n * es, none⟩), ?_, by simp only [V]; exact ⟨hid, trivial⟩⟩
  have hm : (match (TypeDesc.slice e : TypeDesc) with | .array .. => true | _ => false) = false := rfl
  simp only [Instr.indexAt, Sem.run_bind, run_asIntOf, Result.andThen_ok, run_underlying hu, Sem.run_pure]
  rw [if_pos ⟨by omega, by omega⟩]
  simp [run_sizeOf hn, addr_add]

theorem iaA_ok {t e es len n : Nat} (hu : P.underlying t = some (.array len e)) (hn : sizeT P e = some es) {x r i : AV} {xv iv : Value} (hx : V g s w x xv) (hi : V g s w i iv) (hin : natOf i = some n) (hlt : n < len)
    (h : addOff (n * es) x = some r) :
    ∃ v, (Instr.indexAt t xv iv).run P w = .ok v w ∧ V g s w r v := by
  obtain ⟨k, rfl⟩ := natOf_ok hi hin
  have run : ∀ b o : Nat, (Instr.indexAt t (.pointer (some ⟨b, o, none⟩)) (.int k (n : Int))).run P w = .ok (.pointer (some ⟨b, o + n * es, none⟩)) w := by
    intro b o
    simp only [Instr.indexAt, Sem.run_bind, run_asIntOf, Result.andThen_ok, run_underlying hu, Sem.run_pure, Instr.sureAddr]
    rw [if_pos ⟨by omega, by omega⟩]
    simp [run_sizeOf hn, addr_add]
  cases x <;> simp only [addOff] at h <;> try (cases h; done)
  case p id o =>
    cases h
    simp only [V] at hx
    obtain ⟨h1, rfl⟩ := hx
    exact ⟨_, run _ _, by simp only [V]; exact ⟨h1, trivial⟩⟩
  case ep l o m =>
    cases h
    simp only [V] at hx
    obtain ⟨b, o', cs, rfl, h1, h2⟩ := hx
    exact ⟨_, run _ _, by simp only [V]; exact ⟨b, o', cs, by rw [Nat.add_assoc], h1, h2⟩⟩

theorem ixA_ok {t e es len n : Nat} {agg : Bool} (hu : P.underlying t = some (.array len e)) (ha : aggOf P e = some agg) (hn : sizeT P e = some es) {l m : List AV} {r i : AV} {xv iv : Value} (hx : V g s w (.agg l) xv) (hi : V g s w i iv)
    (hin : natOf i = some n) (hlt : n < len) (hc : cut l (n * es) es = some m) (hr : scal agg m = some r) : ∃ v, (Instr.index t xv iv).run P w = .ok v w ∧ V g s w r v := by
  obtain ⟨k, rfl⟩ := natOf_ok hi hin
  simp only [V] at hx
  obtain ⟨vs, h1, rfl⟩ := hx
  obtain ⟨v, e1, e2⟩ := run_part ha hn h1 hc hr
  refine ⟨v, ?_, e2⟩
  simp only [Instr.index, Sem.run_bind, run_asIntOf, Result.andThen_ok, run_underlying hu]
  rw [if_pos ⟨by omega, by omega⟩]
  simp [run_sizeOf hn, e1]

theorem bytesOf_get {l : List Nat} {n c : Nat} (h : l[n]? = some c) : (bytesOf l)[n]? = some (UInt8.ofNat c) := by
  have hlt : n < l.length := by rcases List.getElem?_eq_some_iff.1 h with ⟨h, _⟩; exact h
  have hs : n < (bytesOf l).size := by rw [bytes_size]; exact hlt
  rw [getElem?_pos (bytesOf l) n hs]
  congr 1
  rcases List.getElem?_eq_some_iff.1 h with ⟨_, h⟩
  simp [bytesOf, ByteArray.getElem_eq_getElem_data, h]

theorem ixS_ok {t n c : Nat} (hu : P.underlying t = some .string) {l : List Nat} {i : AV} {xv iv : Value} (hx : V g s w (.s l) xv) (hi : V g s w i iv) (hin : natOf i = some n) (hc : l[n]? = some c) :
    ∃ v, (Instr.index t xv iv).run P w = .ok v w ∧ V g s w (.i .u8 (Int.ofNat c)) v := by
  obtain ⟨k, rfl⟩ := natOf_ok hi hin
  simp only [V] at hx
  obtain ⟨rfl, hlt⟩ := hx
  have hm : c ∈ l := List.mem_of_getElem? hc
  have := hlt c hm
  refine ⟨.int .u8 (Int.ofNat c), ?_, by simp [V]⟩
  simp only [Instr.index, Sem.run_bind, run_asIntOf, Result.andThen_ok, run_underlying hu]
  rw [if_pos (by omega), Int.toNat_natCast, bytesOf_get hc]
  simp only [Sem.run_pure]
  rw [show (UInt8.ofNat c).toNat = c by rw [UInt8.toNat_ofNat']; omega]
  rfl

/-! ### Texts -/
theorem bytesOf_append (a b : List Nat) : bytesOf a ++ bytesOf b = bytesOf (a ++ b) := by
  have : ∀ x y : ByteArray, x.data = y.data → x = y := fun x y h => by cases x; cases y; simp_all
  apply this
  rw [ByteArray.data_append]
  simp [bytesOf]

theorem toList_bytes (s : ByteArray) : s.toList = s.data.toList := by
  exact ByteArray.toList_eq s

theorem bytesOf_toList (l : List Nat) : (bytesOf l).toList = l.map UInt8.ofNat := by
  rw [toList_bytes, bytes_get]

theorem ofNat_inj {a b : Nat} (ha : a < 256) (hb : b < 256) : (UInt8.ofNat a == UInt8.ofNat b) = Nat.beq a b := by
  by_cases h : a = b
  · subst h; rw [Nat.beq_refl]; exact beq_self_eq_true _
  · have h1 : Nat.beq a b = false := by
      cases hb : Nat.beq a b with
      | false => rfl
      | true => exact absurd (Nat.eq_of_beq_eq_true hb) h
    rw [h1]
    rw [beq_eq_false_iff_ne]
    intro he
    have := congrArg UInt8.toNat he
    rw [UInt8.toNat_ofNat', UInt8.toNat_ofNat'] at this
    omega

theorem beqN_ok : ∀ {a b : List Nat}, (∀ n ∈ a, n < 256) → (∀ n ∈ b, n < 256) → (a.map UInt8.ofNat == b.map UInt8.ofNat) = beqN a b
  | [], [], _, _ => rfl
  | [], _ :: _, _, _ => rfl
  | _ :: _, [], _, _ => rfl
  | x :: a, y :: b, ha, hb => by
    simp only [List.map_cons, beqN]
    rw [show ((UInt8.ofNat x :: a.map UInt8.ofNat) == (UInt8.ofNat y :: b.map UInt8.ofNat)) = ((UInt8.ofNat x == UInt8.ofNat y) && (a.map UInt8.ofNat == b.map UInt8.ofNat)) from rfl]
    rw [ofNat_inj (ha x (by simp)) (hb y (by simp)), beqN_ok (fun n hn => ha n (by simp [hn])) (fun n hn => hb n (by simp [hn]))]

theorem ltN_ok : ∀ {a b : List Nat}, (∀ n ∈ a, n < 256) → (∀ n ∈ b, n < 256) → Op.bytesLess (a.map UInt8.ofNat) (b.map UInt8.ofNat) = ltN a b
  | [], [], _, _ => rfl
  | [], _ :: _, _, _ => rfl
  | _ :: _, [], _, _ => rfl
  | x :: a, y :: b, ha, hb => by
    simp only [List.map_cons, Op.bytesLess, ltN]
    rw [ofNat_inj (ha x (by simp)) (hb y (by simp)), ltN_ok (fun n hn => ha n (by simp [hn])) (fun n hn => hb n (by simp [hn]))]
    congr 1
    have hx := ha x (by simp)
    have hy := hb y (by simp)
    rw [Bool.eq_iff_iff, decide_eq_true_iff, UInt8.lt_iff_toNat_lt, UInt8.toNat_ofNat', UInt8.toNat_ofNat', Nat.blt_eq]
    omega

theorem strOp_ok {op : BinOp} {a b : List Nat} {r : AV} (ha : ∀ n ∈ a, n < 256) (hb : ∀ n ∈ b, n < 256) (h : strOp op a b = some r) :
    ∃ v, (Op.stringOp op (bytesOf a) (bytesOf b)).run P w = .ok v w ∧ V g s w r v := by
  have e1 := beqN_ok ha hb
  have e2 := ltN_ok ha hb
  cases op <;> simp only [strOp] at h <;> try (cases h; done)
  case add =>
    by_cases hlen : a.length + b.length < 2 ^ 62
    case neg => rw [if_neg hlen] at h; cases h
    rw [if_pos hlen] at h
    cases h
    refine ⟨.string (bytesOf (a ++ b)), ?_, ?_⟩
    · simp only [Op.stringOp]
      rw [if_neg (by
        have : IntKind.i64.max = 9223372036854775807 := rfl
        rw [bytes_size, bytes_size, this]; omega), bytesOf_append]
      rfl
    · simp only [V]
      refine ⟨trivial, fun n hn => ?_⟩
      rcases List.mem_append.1 hn with hn | hn
      · exact ha n hn
      · exact hb n hn
  all_goals
    cases h
    refine ⟨_, rfl, ?_⟩
    simp only [V, bytesOf_toList, e1, e2]
end Go.Proofs.YtfaodjpibdhdjaaDoor.Am
