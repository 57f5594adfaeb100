/-
  How the model's code is turned into the abstract machine's.
-/
import Derived.Test.YtfaodjpibdhdjaaDoorAmInv2
set_option linter.all false
set_option linter.unusedVariables false
set_option linter.unusedSimpArgs false
set_option linter.unusedSectionVars false
set_option linter.constructorNameAsVariable false
namespace Go.Proofs.YtfaodjpibdhdjaaDoor.Am

/-- A constant. -/
def cvVal : Nat → Value → Option AV
  | 0, _ => none
  | d + 1, v => match v with
    | .bool b => some (.b b)
    | .int k n => some (.i k n)
    | .string s => some (.s (s.data.toList.map fun c => c.toNat))
    | .pointer none => some .np
    | .slice none 0 0 => some .nsl
    | .map none => some .nm
    | .nilFunc => some .nf
    | .nilIface => some .ni
    | .iface t v => match cvVal d v with
      | some a => some (.ifc t a)
      | none => none
    | .agg cs => match cvL d cs.toList with
      | some l => some (.agg l)
      | none => none
    | .tuple cs => match cvL d cs.toList with
      | some l => some (.tup l)
      | none => none
    | _ => none
where
  cvL : Nat → List Value → Option (List AV)
    | _, [] => some []
    | d, v :: l => match cvVal d v, cvL d l with
      | some a, some r => some (a :: r)
      | _, _ => none

def cvX (gt : Nat → Option (List AV)) : Operand → Option X
  | .tmp t => some (.t t)
  | .const v => match cvVal 20 v with
    | some a => some (.c a)
    | none => none
  | .global g => match gt g with
    | some l => some (.c (.ep l 0 .full))
    | none => none
  | .func f => some (.c (.fn f []))

def cvXs (gt : Nat → Option (List AV)) : List Operand → Option (List X)
  | [] => some []
  | x :: l => match cvX gt x, cvXs gt l with
    | some a, some r => some (a :: r)
    | _, _ => none
def cvO (gt : Nat → Option (List AV)) : Option Operand → Option (Option X)
  | none => some none
  | some x => match cvX gt x with
    | some a => some (some a)
    | none => none

def aggOf (P : Program) (t : Nat) : Option Bool := match P.underlying t with
  | some (.struct _) => some true
  | some (.array _ _) => some true
  | some _ => some false
  | none => none
def sizeT (P : Program) (t : Nat) : Option Nat := match P.info? t with
  | some i => some i.size
  | none => none
def zeroT (P : Program) (t : Nat) : Option AV := match P.info? t with
  | some i => match i.zero with
    | some v => cvVal 20 v
    | none => none
  | none => none

def externRow (name : String) : Option Nat :=
  if name = "internal/bytealg.IndexByteString" then some 0
  else if name = "internal/abi.NoEscape" then some 1
  else none

/-- The places of a struct's fields, or of an array's elements. -/
def places (P : Program) (t : Nat) : Option (List (Nat × Nat)) := match P.underlying t with
  | some (.struct fs) => go fs.toList
  | some (.array n e) => match sizeT P e with
    | some k => some ((List.range n).map fun i => (i * k, k))
    | none => none
  | _ => none
where
  go : List Field → Option (List (Nat × Nat))
    | [] => some []
    | f :: l => match sizeT P f.type, go l with
      | some k, some r => some ((f.offset, k) :: r)
      | _, _ => none

def cvParts (gt : Nat → Option (List AV)) (pl : List (Nat × Nat)) : List (Nat × Operand) → Option (List (Nat × Nat × X))
  | [] => some []
  | (i, x) :: l => match pl[i]?, cvX gt x, cvParts gt pl l with
    | some (o, n), some a, some r => some ((o, n, a) :: r)
    | _, _, _ => none

/-- The elements of a slice's literal: each place is given, in order. -/
def cvElems (gt : Nat → Option (List AV)) : Nat → List (Nat × Operand) → Option (List X)
  | _, [] => some []
  | n, (i, x) :: l => match cvX gt x, cvElems gt (n + 1) l with
    | some a, some r => if i = n then some (a :: r) else none
    | _, _ => none

def appOp (P : Program) (e : Nat) (a b : X) : Option AOp :=
  match P.info? e, zeroT P e with
  | some i, some z => if 1 ≤ i.size ∧ i.bytes ≤ 256 ∧ z.cells.length = i.size then some (.app i.size e a b) else none
  | _, _ => none

def apzOp (P : Program) (e : Nat) (a b : X) : Option AOp :=
  match P.info? e, zeroT P e with
  | some i, some z => if 1 ≤ i.size ∧ i.bytes ≤ 256 ∧ z.cells.length = i.size then some (.apz i.size e z.cells a b) else none
  | _, _ => none

/-- The functions that ask whether two slices lie in one place. -/
def isOvl (F : Func) : Bool := F.origin == "slices.overlaps" && (F.name == "slices.overlaps[string]" || (F.name == "slices.overlaps[touchstone/api.Node]" || (F.name == "slices.overlaps[int]" || F.name == "slices.overlaps[touchstone/api.Term]")))
def ovlOp (P : Program) (F : Func) (args : List X) : Option AOp := match args, F.params.toList with
  | [x, y], [t, _] => match P.underlying t with
    | some (.slice e) => match sizeT P e with
      | some es => if 1 ≤ es then some (.ovl es x y) else none
      | none => none
    | _ => none
  | _, _ => none

def unsafeOp (P : Program) (t : Nat) (a : X) : Option AOp :=
  match sizeT P t with
  | some (n + 1) => if liesAt P P.depth t 1 0 t 1 = true ∧ P.cellsOf t = n + 1 then some (.cvU t (n + 1) a) else none
  | _ => none

/-- The function that is a type's method of a name, where it takes the value as it is. -/
def invOf (P : Program) (name : String) (t : Nat) : Option Nat := match P.info? t, P.underlying t with
  | some i, some d => match i.methods.find? (·.name == name) with
    | some m => match m.path.toList, m.func with
      | [], some (f, pr) => match d, pr with
        | .pointer _, true => some f
        | .pointer _, false => none
        | _, true => none
        | _, false => some f
      | _, _ => none
    | none => none
  | _, _ => none
def invTab (P : Program) (name : String) : List (Nat × Nat) := (List.range P.types.size).filterMap fun t => (invOf P name t).map fun f => (t, f)

def mnzName : String := "internal/bytealg.MakeNoZero"

def compCall (P : Program) (gt : Nat → Option (List AV)) (pop : Bool) (c : Call) (args : List X) : Option AOp :=
  match c.callee with
  | .value (.func f) => match P.funcs[f]? with
    | some fn => match fn.body with
      | some _ => if pop then some (.callK f args) else some (.call f args)
      | none => match externRow fn.name with
        | some r => some (.xtn r args)
        | none => if fn.name = mnzName then match args, fn.resultTypes.toList with
            | [x], [t] => match P.underlying t with
              | some (.slice e) => match P.underlying e, sizeT P e with
                | some (.int .u8), some 1 => some (.mnz e x)
                | _, _ => none
              | _ => none
            | _, _ => none
          else if isOvl fn = true then ovlOp P fn args else none
    | none => none
  | .value v => match cvX gt v with
    | some x => some (.callX x args)
    | none => none
  | .invoke r name => match cvX gt r with
    | some x => some (.inv (invTab P name) x args)
    | none => none
  | .builtin .len => match args, c.argTypes[0]? with
    | [a], some t => match P.underlying t with
      | some .string => some (.len 0 a)
      | some (.slice _) => some (.len 1 a)
      | some (.map _ _) => some (.len 2 a)
      | _ => none
    | _, _ => none
  | .builtin .cap => match args, c.argTypes[0]? with
    | [a], some t => match P.underlying t with
      | some (.slice _) => some (.cap a)
      | _ => none
    | _, _ => none
  | .builtin .clear => match args, c.argTypes[0]? with
    | [a], some t => match P.underlying t with
      | some (.slice e) => match sizeT P e, zeroT P e with
        | some es, some z => if 1 ≤ es ∧ z.cells.length = es then some (.clr es z.cells a) else none
        | _, _ => none
      | _ => none
    | _, _ => none
  | .builtin .max => match args with
    | [a, b] => some (.mm true a b)
    | _ => none
  | .builtin .min => match args with
    | [a, b] => some (.mm false a b)
    | _ => none
  | .builtin .copy => match args, c.argTypes[0]? with
    | [a, b], some t => match P.underlying t with
      | some (.slice e) => match sizeT P e with
        | some es => some (.cp0 es a b)
        | none => none
      | _ => none
    | _, _ => none
  | .builtin .unsafeSliceData => match args, c.argTypes[0]? with
    | [a], some t => match P.underlying t with
      | some (.slice _) => some (.ud a)
      | _ => none
    | _, _ => none
  | .builtin .unsafeString => match args, c.argTypes.toList with
    | [a, n], [t, _] => match P.underlying t with
      | some (.pointer e) => if P.cellsOf e = 1 then some (.us e a n) else none
      | _ => none
    | _, _ => none
  | .builtin .append => match args, c.argTypes[0]?, c.argTypes[1]? with
    | [a, b], some t, some u => match P.underlying t, P.underlying u with
      | some (.slice e), some (.slice _) => appOp P e a b
      | some (.slice e), some .string => appOp P e a b
      | some (.slice e), some (.int _) => apzOp P e a b
      | _, _ => none
    | _, _, _ => none
  | _ => none

def isConst : Operand → Bool
  | .const _ => true
  | _ => false

def eqKind (P : Program) (d : TypeDesc) (x y : Operand) : Option EK := match d with
  | .bool => some .bool
  | .pointer e => match sizeT P e with
    | some (_ + 1) => some .ptr
    | _ => none
  | .slice _ => some .sl
  | .map _ _ => some .mp
  | .func _ _ _ => some .fn
  | .interface _ => if isConst x || isConst y then some .ifc else none
  | _ => none

/-- A map's type: the kind of its keys, and its elements' type. -/
def keyT (P : Program) (t : Nat) : Option (Nat × Nat) := match P.underlying t with
  | some (.map k e) => match P.underlying k with
    | some (.int _) => some (0, e)
    | some .string => some (1, e)
    | some .bool => some (2, e)
    | _ => none
  | _ => none

/-- A method's name, by its letters. -/
def nmOf (n : String) : List Nat := n.toList.map Char.toNat
def compOp0 (P : Program) (gt : Nat → Option (List AV)) (pop : Bool) (o : Oper) : Option AOp :=
  match o.op with
  | .move a => match cvX gt a with
    | some x => some (.mv x)
    | none => none
  | .assign a => match cvX gt a with
    | some x => some (.mv x)
    | none => none
  | .pick c a b => match cvX gt c, cvX gt a, cvX gt b with
    | some c, some a, some b => some (.pick c a b)
    | _, _, _ => none
  | .alloc t => match zeroT P t with
    | some z => some (.alloc t z.cells)
    | none => none
  | .box t v => match sizeT P t, cvX gt v with
    | some n, some x => some (.box t n x)
    | _, _ => none
  | .build t parts => match zeroT P t, places P t with
    | some z, some pl => match cvParts gt pl parts.toList with
      | some ps => some (.build z.cells ps)
      | none => none
    | _, _ => none
  | .buildSlice t len parts => match P.underlying t with
    | some (.slice e) => match sizeT P e, zeroT P e, cvElems gt 0 parts.toList with
      | some es, some _, some xs => if xs.length = len ∧ len * es ≤ 2 ^ 24 then some (.bsl es xs) else none
      | _, _, _ => none
    | _ => none
  | .load t a => match aggOf P t, sizeT P t, cvX gt a with
    | some g, some n, some x => some (.ld g n x)
    | _, _, _ => none
  | .store t a v => match sizeT P t, cvX gt a, cvX gt v with
    | some n, some a, some v => some (.st n a v)
    | _, _, _ => none
  | .nilCheck a => match cvX gt a with
    | some x => some (.nck x)
    | none => none
  | .binOp op t x y _ => match cvX gt x, cvX gt y, P.underlying t with
    | some a, some b, some (.int _) => some (.bin op a b)
    | some a, some b, some .string => some (.bin op a b)
    | some a, some b, some d => match eqKind P d x y, op with
      | some k, .eql => some (.eq k false a b)
      | some k, .neq => some (.eq k true a b)
      | _, _ => none
    | _, _, _ => none
  | .unOp op _ a => match cvX gt a with
    | some a => some (.un op a)
    | none => none
  | .convert s d a => match P.underlying s, P.underlying d, cvX gt a with
    | some (.int _), some (.int k), some a => some (.cvI k a)
    | some .string, some .string, some a => some (.cvId a)
    | some (.int _), some .string, some a => some (.cvRS a)
    | some (.slice e), some .string, some a => match P.underlying e with
      | some (.int .u8) => some (.cvBS a)
      | _ => none
    | some .string, some (.slice e), some a => match P.underlying e with
      | some (.int .u8) => some (.cvSB e a)
      | _ => none
    | some (.pointer t), some .unsafePointer, some a => unsafeOp P t a
    | some .unsafePointer, some (.pointer t), some a => unsafeOp P t a
    | _, _, _ => none
  | .makeInterface t a => match P.underlying t, cvX gt a with
    | some (.interface _), _ => none
    | some _, some a => some (.mki t a)
    | _, _ => none
  | .makeFunc (.func f) first caps => match first.toList, cvXs gt caps.toList with
    | [], some l => some (.mkf f l)
    | _, _ => none
  | .slice t a lo hi mx => match P.underlying t, cvX gt a, cvO gt lo, cvO gt hi, cvO gt mx with
    | some .string, some a, some lo, some hi, some none => some (.slS a lo hi)
    | some (.slice e), some a, some lo, some hi, some mx => match sizeT P e with
      | some n => if mx.isSome && !hi.isSome then none else some (.slc pop n a lo hi mx)
      | none => none
    | some (.array len e), some a, some lo, some hi, some none => match sizeT P e with
      | some (n + 1) => some (.slcA len (n + 1) a lo hi)
      | _ => none
    | _, _, _, _, _ => none
  | .fieldAddr t a f => match P.underlying t, cvX gt a with
    | some (.struct fs), some a => match fs[f]? with
      | some fl => match sizeT P fl.type with
        | some (_ + 1) => some (.fa fl.offset a)
        | _ => none
      | none => none
    | _, _ => none
  | .field t a f => match P.underlying t, cvX gt a with
    | some (.struct fs), some a => match fs[f]? with
      | some fl => match aggOf P fl.type, sizeT P fl.type with
        | some g, some n => some (.fld g fl.offset n a)
        | _, _ => none
      | none => none
    | _, _ => none
  | .indexAddr t a i => match P.underlying t, cvX gt a, cvX gt i with
    | some (.slice e), some a, some i => match sizeT P e with
      | some n => some (.ia n a i)
      | none => none
    | some (.array n e), some a, some i => match sizeT P e with
      | some k => some (.iaA n k a i)
      | none => none
    | _, _, _ => none
  | .index t a i => match P.underlying t, cvX gt a, cvX gt i with
    | some .string, some a, some i => some (.ixS a i)
    | some (.array n e), some a, some i => match aggOf P e, sizeT P e with
      | some g, some k => some (.ixA n k g a i)
      | _, _ => none
    | _, _, _ => none
  | .extract a n => match cvX gt a with
    | some a => some (.ext a n)
    | none => none
  | .range t a => match P.underlying t, cvX gt a with
    | some .string, some a => some (.siter a)
    | _, _ => none
  | .next a true => match cvX gt a with
    | some a => some (.snext a)
    | none => none
  | .call c => match cvXs gt c.args.toList with
    | some args => compCall P gt pop c args
    | none => none
  | .makeMap _ none => some .mkm
  | .insert t m k v => match keyT P t, cvX gt m, cvX gt k, cvX gt v with
    | some (kk, _), some m, some k, some v => some (.ins kk m k v)
    | _, _, _, _ => none
  | .mapUpdate t m k v => match keyT P t, cvX gt m, cvX gt k, cvX gt v with
    | some (kk, _), some m, some k, some v => some (.ins kk m k v)
    | _, _, _, _ => none
  | .lookup t m k ok => match keyT P t, cvX gt m, cvX gt k with
    | some (kk, et), some m, some k => match zeroT P et with
      | some z => some (.look kk z ok m k)
      | none => none
    | _, _, _ => none
  | .makeSlice t l c => match P.underlying t, cvX gt l, cvX gt c with
    | some (.slice e), some l, some c => match P.info? e, zeroT P e with
      | some i, some z => if 1 ≤ i.size ∧ z.cells.length = i.size ∧ i.bytes ≤ 1024 then some (.mks e i.size z.cells l c) else none
      | _, _ => none
    | _, _, _ => none
  | .makeFunc (.method name) first caps => match first.toList, caps.toList with
    | [x], [] => match cvX gt x with
      | some x => some (.mkM (nmOf name) x)
      | none => none
    | _, _ => none
  | _ => none

/-- The methods of interface values that a region takes. -/
def methsOf (ops : List Oper) : String := match ops.findSome? fun o => match o.op with
    | .makeFunc (.method name) _ _ => some name
    | _ => none with
  | some n => n
  | none => ""
/-- Where it is asked for, what a call leaves is told at once. -/
def shutOp : Nat → AOp → AOp
  | 1, .call f args => .callQ false f args
  | 2, .call f args => .callQ true f args
  | 3, .call f args => .callI f args
  | 4, .call f args => .callQ false f args
  | 4, .app es T x y => .appQ es T x y
  | _, o => o
def compOp (P : Program) (gt : Nat → Option (List AV)) (pop : Bool × Nat × String) (o : Oper) : Option AOp := match o.op, compOp0 P gt pop.1 o with
  | .nilCheck _, some (.nck x) => if pop.2.2.isEmpty then some (.nck x) else some (.nckM (nmOf pop.2.2) (invTab P pop.2.2) x)
  | .call _, some a => some (shutOp pop.2.1 a)
  | _, some a => some a
  | _, none => none

def dstOk (n : Nat) : Option Nat → Bool
  | none => true
  | some d => Nat.blt d n

def compOps (P : Program) (gt : Nat → Option (List AV)) (pop : Bool × Nat × String) (n : Nat) (all : Array Oper) : List Oper → Option (List Op)
  | [] => some []
  | o :: l => match compOps P gt pop n all l with
    | none => none
    | some r =>
      let op := (compOp P gt pop o).getD .bad
      if dstOk n o.dst then match o.guard with
        | none => some (⟨o.dst, op, none⟩ :: r)
        | some (j, w) => match all[j]? with
          | some oj => match oj.dst with
            | some d => if d < n then some (⟨o.dst, op, some (d, w)⟩ :: r) else none
            | none => none
          | none => none
      else none

/-- For each operation of a region, the operations that surely come before it, as bits. -/
def predsGo : List Oper → List Nat → List Nat
  | [], acc => acc
  | o :: l, acc => predsGo l (acc ++ [predOf acc o.after.toList])
where
  predOf (acc : List Nat) : List Edge → Nat
    | [] => 0
    | e :: l => if Region.binds .any e then (2 ^ e.on ||| acc.getD e.on 0) ||| predOf acc l else predOf acc l

/-- Every binding edge leads back. -/
def edgesBack : Nat → List Oper → Bool
  | _, [] => true
  | i, o :: l => o.after.toList.all (fun e => !Region.binds .any e || Nat.blt e.on i) && edgesBack (i + 1) l

def ordered (pm : List Nat) (i j : Nat) : Bool := if Nat.blt i j then (pm.getD j 0).testBit i else (pm.getD i 0).testBit j

def winF : List (Nat × Nat × Nat) → Nat → Nat × Nat
  | [], i => (i, i)
  | (j, lo, hi) :: l, i => if Nat.beq i j then (lo, hi) else winF l i

/-- May operation i and the operation j (a later one) not change places? Else they must not touch each other; or, where one reads the state and the other one changes it, it is asked whether the one reads the same on both sides. -/
def apartD (pm : List Nat) (win : Nat → Nat × Nat) (i j : Nat) (o p : Op) : Bool :=
  ordered pm i j || ((!(Nat.beq o.op.cls 2 && !Nat.beq p.op.cls 0) || (Nat.beq p.op.cls 1 && Nat.ble (win j).1 i)) && ((!(Nat.beq p.op.cls 2 && !Nat.beq o.op.cls 0) || (Nat.beq o.op.cls 1 && Nat.blt j (win i).2)) &&
    ((match o.dst with | some t => !p.reads.contains t | none => true) && (match p.dst with | some t => !o.reads.contains t | none => true))))

def oneWriter (o p : Op) : Bool := match o.dst, p.dst with
  | some t, some u => !Nat.beq t u
  | _, _ => true

def drawRow (pm : List Nat) (win : Nat → Nat × Nat) (i : Nat) (o : Op) : Nat → List Op → Bool
  | _, [] => true
  | j, p :: l => oneWriter o p && apartD pm win i j o p && drawRow pm win i o (j + 1) l
def drawAll (pm : List Nat) (win : Nat → Nat × Nat) : Nat → List Op → Bool
  | _, [] => true
  | i, o :: l => drawRow pm win i o (i + 1) l && drawAll pm win (i + 1) l

/-- For each operation that reads the state and is not ordered with one that changes it: between which places it may come. -/
def winsOf (pm : List Nat) (all : List Op) : Nat → List Op → List (Nat × Nat × Nat)
  | _, [] => []
  | i, o :: l =>
    let r := winsOf pm all (i + 1) l
    if Nat.beq o.op.cls 1 then
      let w := win i 0 all
      if Nat.beq w.1 i && Nat.beq w.2 i then r else (i, w) :: r
    else r
where
  win (i j : Nat) : List Op → Nat × Nat
    | [] => (i, i)
    | p :: l =>
      let w := win i (j + 1) l
      if Nat.beq p.op.cls 2 && !ordered pm i j then
        if Nat.blt j i then (min w.1 j, w.2) else (w.1, max w.2 (j + 1))
      else w

def drawOk (ops : Array Oper) (l : List Op) (wins : List (Nat × Nat × Nat)) : Bool :=
  edgesBack 0 ops.toList && drawAll (predsGo ops.toList []) (winF wins) 0 l && wins.all fun w => Nat.ble w.2.1 w.1 && (Nat.ble w.1 w.2.2 && Nat.ble w.2.2 l.length)

/-- No range over a function in it. -/
def noRf : Code → Bool
  | .seq a b => noRf a && noRf b
  | .cond _ a b => noRf a && noRf b
  | .block _ b => noRf b
  | .loop b => noRf b
  | .scope b => noRf b
  | .rangeFunc _ _ _ _ => false
  | _ => true

/-- An object that is made at i, and is first written at j: it may be made at any time before. -/
def fuseAt (P : Program) (gt : Nat → Option (List AV)) (ops : Array Oper) (i j : Nat) : Option (Nat × Nat × List AV × Nat × X) :=
  match ops[i]?, ops[j]? with
  | some oi, some oj => match oi.op, oi.dst, oi.guard, oj.op, oj.dst, oj.guard with
    | .alloc T, some d, none, .store ts (.tmp d') w, none, none => match zeroT P T, sizeT P ts, cvX gt w with
      | some z, some m, some v => if d' = d then some (d, T, z.cells, m, v) else none
      | _, _, _ => none
    | _, _, _, _, _, _ => none
  | _, _ => none
def findFuse (P : Program) (gt : Nat → Option (List AV)) (ops : Array Oper) : Option (Nat × Nat) :=
  (List.range ops.size).findSome? fun j => (List.range j).findSome? fun i => match fuseAt P gt ops i j with
    | some _ => some (i, j)
    | none => none
def fuseL (cl : List Op) (i j d T : Nat) (z : List AV) (m : Nat) (v : X) : List Op := (cl.set i ⟨none, .mv (.c undef), none⟩).set j ⟨some d, .adp T z m v, none⟩
def fuseOk (pm : List Nat) (i j d n : Nat) (cl : List Op) : Bool := Nat.blt i j && ((pm.getD j 0).testBit i && (Nat.blt d n && cl.all fun c => !c.reads.contains d))
def fused (P : Program) (gt : Nat → Option (List AV)) (n : Nat) (ops : Array Oper) (l : List Op) : C :=
  match findFuse P gt ops with
  | some (i, j) => match fuseAt P gt ops i j with
    | some (d, T, z, m, v) =>
      let l' := fuseL l i j d T z m v
      let wins := winsOf (predsGo ops.toList []) l' 0 l'
      if drawOk ops l' wins && fuseOk (predsGo ops.toList []) i j d n l' then .regD l' wins else .bad
    | none => .bad
  | none => .bad

/-- The slots whose rows become boxes ahead of a region: the hints 1000000000 + 1000 * region + slot. -/
def thawsOf (pops : List Nat) (n id : Nat) : List Nat := pops.filterMap fun x => if Nat.beq (x / 1000) (1000000 + id) && Nat.blt (x % 1000) n then some (x % 1000) else none
def withThaw : List Nat → C → C
  | [], c => c
  | v :: l, c => .seq (.thw v) (withThaw l c)

def compC (P : Program) (gt : Nat → Option (List AV)) (pops : List Nat) (n : Nat) : Code → C
  | .skip => .skip
  | .label _ => .skip
  | .region id ops draw => withThaw (thawsOf pops n id) (match compOps P gt (pops.contains id, cond (pops.contains (4000000000 + id)) 3 (cond (pops.contains (3000000000 + id)) 2 (cond (pops.contains (5000000000 + id)) 4 (cond (pops.contains (2000000000 + id)) 1 0))), methsOf ops.toList) n ops ops.toList with
    | some l => if draw then (let wins := winsOf (predsGo ops.toList []) l 0 l; if drawOk ops l wins then .regD l wins else fused P gt n ops l) else .reg l
    | none => .bad)
  | .seq a b => .seq (compC P gt pops n a) (compC P gt pops n b)
  | .cond c a b => match cvX gt c with
    | some c => .cond c (compC P gt pops n a) (compC P gt pops n b)
    | none => .bad
  | .block id b => .blk id (compC P gt pops n b)
  | .loop b => .loop (compC P gt pops n b)
  | .scope b => compC P gt pops n b
  | .exit id => .exit id
  | .ret => .ret
  | .rangeFunc f ps a b => match cvX gt f with
    | some f => if noRf a && noRf b && ps.toList.all (fun p => Nat.blt p n) then .rf f ps.toList (compC P gt pops n a) (compC P gt pops n b) else .bad
    | none => .bad
  | _ => .bad

def compR (P : Program) : List ResultVar → Option (List (Nat × Option (Bool × Nat)))
  | [] => some []
  | .tmp t :: l => match compR P l with
    | some r => some ((t, none) :: r)
    | none => none
  | .cell t ty :: l => match compR P l, aggOf P ty, sizeT P ty with
    | some r, some g, some n => some ((t, some (g, n)) :: r)
    | _, _, _ => none

def ctCells : CT → List CT
  | .agg cs => cs
  | c => [c]

/-- How a type's values are told at a border. -/
def ctT (P : Program) : Nat → Nat → CT
  | 0, _ => .id
  | d + 1, t => match P.underlying t with
    | some (.slice e) => match sizeT P e with
      | some n => .sl n (ctT P d e)
      | none => .id
    | some (.struct fs) => .agg (fs.toList.flatMap fun f => ctCells (ctT P d f.type))
    | some (.array n e) => .agg ((List.range n).flatMap fun _ => ctCells (ctT P d e))
    | _ => .id

def compF (P : Program) (gt : Nat → Option (List AV)) (keep raw : Bool) (pops : List Nat) (f : Func) : Option Fun :=
  match f.body, compR P f.results.toList with
  | some b, some res => if f.ntmps < 1000 ∧ f.params.size ≤ f.ntmps then some { cin := if raw then [] else f.params.toList.map (ctT P 6), cout := if raw || keep then [] else f.resultTypes.toList.map (ctT P 6), ntmps := f.ntmps, keep, res, body := compC P gt pops f.ntmps b } else none
  | _, _ => none

theorem beqN_eq : ∀ {a b : List Nat}, beqN a b = true → a = b
  | [], [], _ => rfl
  | [], _ :: _, h => by simp [beqN] at h
  | _ :: _, [], h => by simp [beqN] at h
  | a :: l, b :: m, h => by
    simp only [beqN, Bool.and_eq_true] at h
    rw [Nat.eq_of_beq_eq_true h.1, beqN_eq h.2]

/-! ### Operands -/
section operands
variable {gt : Nat → Option (List AV)} {g : G} {s : St} {w : World}

theorem bytesOf_toNat (s : ByteArray) : bytesOf (s.data.toList.map fun c => c.toNat) = s := by
  unfold bytesOf
  rw [List.map_map]
  have : (UInt8.ofNat ∘ fun c : UInt8 => c.toNat) = id := by funext c; simp
  rw [this]
  simp

theorem cvVal_ok : ∀ (d : Nat) (v : Value) (a : AV), cvVal d v = some a → V g s w a v
  | 0, _, _, h => by simp [cvVal] at h
  | d + 1, v, a, h => by
    have hL : ∀ (l : List Value) (r : List AV), cvVal.cvL d l = some r → VL g s w r l := by
      intro l
      induction l with
      | nil => intro r h; simp [cvVal.cvL] at h; subst h; simp [VL]
      | cons x l ih =>
        intro r h
        simp only [cvVal.cvL] at h
        split at h
        · rename_i a' r' h1 h2
          cases h
          simp only [VL]
          exact ⟨x, l, rfl, cvVal_ok d x a' h1, ih r' h2⟩
        · cases h
    unfold cvVal at h
    split at h
    case h_1 b => cases h; simp [V]
    case h_2 k n => cases h; simp [V]
    case h_3 b =>
      cases h
      simp only [V]
      refine ⟨by rw [bytesOf_toNat], fun n hn => ?_⟩
      simp only [List.mem_map] at hn
      obtain ⟨c, _, rfl⟩ := hn
      exact c.toNat_lt
    case h_4 => cases h; simp [V]
    case h_5 => cases h; simp [V]
    case h_6 => cases h; simp [V]
    case h_7 => cases h; simp [V]
    case h_8 => cases h; simp [V]
    case h_9 t u =>
      split at h
      · rename_i a' h1
        cases h
        simp only [V]
        exact ⟨u, cvVal_ok d u a' h1, rfl⟩
      · cases h
    case h_10 cs =>
      split at h
      · rename_i l h1
        cases h
        simp only [V]
        exact ⟨cs.toList, hL _ _ h1, rfl⟩
      · cases h
    case h_11 cs =>
      split at h
      · rename_i l h1
        cases h
        simp only [V]
        exact ⟨cs.toList, hL _ _ h1, rfl⟩
      · cases h
    case h_12 => cases h

/-- What is known of the package-level variables. -/
def GT (gt : Nat → Option (List AV)) (g : G) (w : World) : Prop :=
  ∀ i l, gt i = some l → i < g.base ∧ ∃ cs, (∀ g s w, VL g s w l cs) ∧ cellsAt w i 0 cs ∧ ∃ row a b, w.heap[i]? = some (.cells row a b) ∧ row.toList = cs

theorem GT.mono {g' : G} {s' : St} {w' : World} (h : Le g s w g' s' w') (hg : GT gt g w) : GT gt g' w' := by
  intro i l hl
  obtain ⟨h1, cs, h2, h3, row, a, b, h4, h5⟩ := hg i l hl
  exact ⟨by rw [h.base]; exact h1, cs, h2, fun j v hj => h.cell i (0 + j) v (.inl h1) (h3 j v hj), row, a, b, (h.low i h1).trans h4, h5⟩

theorem cvX_ok (hG : GT gt g w) {e : Tr} {a : Act} (hT : VT g s w e a.tmps) {x : Operand} {y : X} (h : cvX gt x = some y) : V g s w (y.ev e) (a.eval x) := by
  cases x with
  | tmp t => simp only [cvX] at h; cases h; exact hT.2 t
  | const v =>
    simp only [cvX] at h
    split at h
    · rename_i a' h1; cases h; exact cvVal_ok 20 v a' h1
    · cases h
  | global i =>
    simp only [cvX] at h
    split at h
    · rename_i l h1
      cases h
      obtain ⟨h2, cs, h3, h4, _⟩ := hG i l h1
      simp only [X.ev, V, Act.eval]
      exact ⟨i, 0, cs, rfl, trivial, fun _ => ⟨h3 _ _ _, h4, .inl h2⟩⟩
    · cases h
  | func f => simp only [cvX] at h; cases h; simp [X.ev, V, VL, Act.eval]

theorem cvXs_ok (hG : GT gt g w) {e : Tr} {a : Act} (hT : VT g s w e a.tmps) : ∀ {l : List Operand} {r : List X}, cvXs gt l = some r → VL g s w (evX e r) (l.map a.eval)
  | [], r, h => by simp only [cvXs] at h; cases h; simp [evX, VL]
  | x :: l, r, h => by
    simp only [cvXs] at h
    split at h
    · rename_i y r' h1 h2
      cases h
      simp only [evX, VL, List.map_cons]
      exact ⟨_, _, rfl, cvX_ok hG hT h1, cvXs_ok hG hT h2⟩
    · cases h

theorem Tr.get_e (t : Nat) : Tr.get .e t = undef := by unfold Tr.get; rfl

theorem get_set : ∀ (f : Nat) (e : Tr) (d : Nat) (v : AV), d + 1 < 2 ^ f → ∀ t, (e.set f d v).get t = if t = d then v else e.get t
  | 0, e, d, v, h, t => by simp at h
  | f + 1, e, d, v, h, t => by
    have hp : 2 ^ (f + 1) = 2 * 2 ^ f := by rw [Nat.pow_succ]; omega
    cases e with
    | e =>
      cases d with
      | zero =>
        cases t with
        | zero => simp [Tr.set, Tr.get]
        | succ t => simp [Tr.set, Tr.get]
      | succ d =>
        simp only [Tr.set]
        have ih := get_set f .e (d / 2) v (by omega)
        cases hb : Nat.beq (d % 2) 0 with
        | true =>
          have hd : d % 2 = 0 := Nat.eq_of_beq_eq_true hb
          cases t with
          | zero => simp [Tr.get]
          | succ t =>
            cases hb2 : Nat.beq (t % 2) 0 with
            | true =>
              have ht : t % 2 = 0 := Nat.eq_of_beq_eq_true hb2
              simp only [cond_true, Tr.get, hb2, ih]
              by_cases he : t / 2 = d / 2
              · rw [if_pos he, if_pos (by omega)]
              · rw [if_neg he, if_neg (by omega)]
            | false =>
              have ht : t % 2 ≠ 0 := fun hh => by rw [hh] at hb2; cases hb2
              simp only [cond_true, Tr.get, hb2, cond_false]
              rw [if_neg (by omega)]
        | false =>
          have hd : d % 2 ≠ 0 := fun hh => by rw [hh] at hb; cases hb
          cases t with
          | zero => simp [Tr.get]
          | succ t =>
            cases hb2 : Nat.beq (t % 2) 0 with
            | true =>
              have ht : t % 2 = 0 := Nat.eq_of_beq_eq_true hb2
              simp only [cond_true, Tr.get, hb2, cond_false]
              rw [if_neg (by omega)]
            | false =>
              have ht : t % 2 ≠ 0 := fun hh => by rw [hh] at hb2; cases hb2
              simp only [cond_false, Tr.get, hb2, ih]
              by_cases he : t / 2 = d / 2
              · rw [if_pos he, if_pos (by omega)]
              · rw [if_neg he, if_neg (by omega)]
    | n l u r =>
      cases d with
      | zero =>
        cases t with
        | zero => simp [Tr.set, Tr.get]
        | succ t => simp [Tr.set, Tr.get]
      | succ d =>
        simp only [Tr.set]
        cases hb : Nat.beq (d % 2) 0 with
        | true =>
          have hd : d % 2 = 0 := Nat.eq_of_beq_eq_true hb
          have ih := get_set f l (d / 2) v (by omega)
          cases t with
          | zero => simp [Tr.get]
          | succ t =>
            cases hb2 : Nat.beq (t % 2) 0 with
            | true =>
              have ht : t % 2 = 0 := Nat.eq_of_beq_eq_true hb2
              simp only [cond_true, Tr.get, hb2, ih]
              by_cases he : t / 2 = d / 2
              · rw [if_pos he, if_pos (by omega)]
              · rw [if_neg he, if_neg (by omega)]
            | false =>
              have ht : t % 2 ≠ 0 := fun hh => by rw [hh] at hb2; cases hb2
              simp only [cond_true, Tr.get, hb2, cond_false]
              rw [if_neg (by omega)]
        | false =>
          have hd : d % 2 ≠ 0 := fun hh => by rw [hh] at hb; cases hb
          have ih := get_set f r (d / 2) v (by omega)
          cases t with
          | zero => simp [Tr.get]
          | succ t =>
            cases hb2 : Nat.beq (t % 2) 0 with
            | true =>
              have ht : t % 2 = 0 := Nat.eq_of_beq_eq_true hb2
              simp only [cond_true, Tr.get, hb2, cond_false]
              rw [if_neg (by omega)]
            | false =>
              have ht : t % 2 ≠ 0 := fun hh => by rw [hh] at hb2; cases hb2
              simp only [cond_false, Tr.get, hb2, ih]
              by_cases he : t / 2 = d / 2
              · rw [if_pos he, if_pos (by omega)]
              · rw [if_neg he, if_neg (by omega)]

theorem VT_set {e : Tr} {tmps : Array Value} (hT : VT g s w e tmps) {d : Nat} (hd : d < tmps.size) {r : AV} {v : Value} (hv : V g s w r v) : VT g s w (e.set 10 d r) (tmps.setIfInBounds d v) := by
  refine ⟨by simpa using hT.1, fun t => ?_⟩
  have h1 := hT.1
  rw [get_set 10 e d r (by omega)]
  by_cases h : t = d
  · subst h
    rw [if_pos rfl]
    simp [Array.getD_eq_getD_getElem?, Array.getElem?_setIfInBounds, hd]; exact hv
  · rw [if_neg h]
    have := hT.2 t
    simp only [Array.getD_eq_getD_getElem?, Array.getElem?_setIfInBounds] at this ⊢
    rw [if_neg (fun hh => h hh.symm)]; exact this

theorem VT_put {e : Tr} {a : Act} (hT : VT g s w e a.tmps) {dst : Option Nat} (hd : dstOk a.tmps.size dst = true) {r : AV} {v : Value} (hv : V g s w r v) : VT g s w (put e dst r) (a.put dst v).tmps := by
  cases dst with
  | none => exact hT
  | some d => exact VT_set hT (by simpa [dstOk, Nat.blt_eq] using hd) hv
end operands
end Go.Proofs.YtfaodjpibdhdjaaDoor.Am
