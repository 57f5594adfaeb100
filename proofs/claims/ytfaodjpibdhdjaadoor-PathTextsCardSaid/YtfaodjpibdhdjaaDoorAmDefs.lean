/-
  The abstract machine: values, operations, code, states, and how code runs on them. Slices are lists, structs are lists of cells; variables whose address is taken are boxes. A program's code is turned into this code by 'compC'; that the model's program does the same is proved elsewhere.
-/
import GoSem.Dispatch
set_option linter.all false
set_option linter.unusedVariables false
set_option linter.unusedSimpArgs false
set_option linter.unusedSectionVars false
set_option linter.constructorNameAsVariable false
namespace Go.Proofs.YtfaodjpibdhdjaaDoor.Am

/-- How a slice may grow: full: its capacity is its length; shut: nothing is known; tok: it is the newest one of a row of its own, k with the version v. -/
inductive Cap where
  | full
  | shut
  | tok (k v : Nat)
  deriving DecidableEq, Inhabited

inductive AV where
  | b (x : Bool)
  | i (k : IntKind) (n : Int)
  | s (l : List Nat)
  | np
  | p (id off : Nat)
  | ep (cells : List AV) (off : Nat) (m : Cap)
  | nsl
  | sl (es : Nat) (xs : List AV) (m : Cap)
  | ws (full : Bool) (es : Nat) (xs : List AV)
  | bl (id es off n : Nat) (e : Nat × Bool)
  | ige (n : Nat)
  | wz
  | sd (xs : List AV) (k v : Nat)
  | nm
  | m (id : Nat)
  | nf
  | fn (f : Nat) (caps : List AV)
  | yld (l : Nat)
  | ni
  | ifc (t : Nat) (v : AV)
  | agg (cells : List AV)
  | tup (l : List AV)
  | any
  | mth (nm : List Nat) (v : AV)
  deriving Inhabited

def undef : AV := .tup []

inductive X where
  | t (n : Nat)
  | c (v : AV)
  deriving Inhabited

/-- At which types == is asked, but for numbers and texts. -/
inductive EK where
  | bool
  | ptr
  | sl
  | mp
  | fn
  | ifc
  deriving DecidableEq, Inhabited

inductive AOp where
  | mv (x : X)
  | pick (c a b : X)
  | alloc (T : Nat) (z : List AV)
  | box (T n : Nat) (x : X)
  | adp (T : Nat) (z : List AV) (n : Nat) (x : X)
  | build (z : List AV) (parts : List (Nat × Nat × X))
  | bsl (es : Nat) (xs : List X)
  | ld (agg : Bool) (n : Nat) (x : X)
  | st (n : Nat) (a v : X)
  | nck (x : X)
  | bin (op : BinOp) (x y : X)
  | eq (k : EK) (neg : Bool) (x y : X)
  | un (op : UnOp) (x : X)
  | cvI (k : IntKind) (x : X)
  | cvId (x : X)
  | cvRS (x : X)
  | cvBS (x : X)
  | cvSB (T : Nat) (x : X)
  | cvU (T n : Nat) (x : X)
  | ud (x : X)
  | us (T : Nat) (x n : X)
  | cp0 (es : Nat) (x y : X)
  | apz (es T : Nat) (z : List AV) (x n : X)
  | ovl (es : Nat) (x y : X)
  | mnz (T : Nat) (x : X)
  | mki (t : Nat) (x : X)
  | mkf (f : Nat) (caps : List X)
  | mkM (nm : List Nat) (x : X)
  | nckM (nm : List Nat) (tab : List (Nat × Nat)) (x : X)
  | clr (es : Nat) (z : List AV) (x : X)
  | mkm
  | ins (kk : Nat) (m k v : X)
  | look (kk : Nat) (z : AV) (ok : Bool) (m k : X)
  | slS (x : X) (lo hi : Option X)
  | slc (pop : Bool) (es : Nat) (x : X) (lo hi mx : Option X)
  | slcA (len es : Nat) (x : X) (lo hi : Option X)
  | mks (T es : Nat) (z : List AV) (n c : X)
  | fa (off : Nat) (x : X)
  | fld (agg : Bool) (off n : Nat) (x : X)
  | ia (es : Nat) (x i : X)
  | iaA (len es : Nat) (x i : X)
  | ixS (x i : X)
  | ixA (len es : Nat) (agg : Bool) (x i : X)
  | tas (t : Nat) (ok : Bool) (z : AV) (x : X)
  | tasI (ts : List Nat) (ok : Bool) (x : X)
  | ext (x : X) (n : Nat)
  | call (f : Nat) (args : List X)
  | callK (f : Nat) (args : List X)
  | callQ (b : Bool) (f : Nat) (args : List X)
  | callI (f : Nat) (args : List X)
  | callX (f : X) (args : List X)
  | inv (tab : List (Nat × Nat)) (r : X) (args : List X)
  | len (k : Nat) (x : X)
  | cap (x : X)
  | app (es T : Nat) (x y : X)
  | appQ (es T : Nat) (x y : X)
  | mm (mx : Bool) (x y : X)
  | siter (x : X)
  | snext (x : X)
  | xtn (r : Nat) (args : List X)
  | bad
  deriving Inhabited

structure Op where
  dst : Option Nat
  op : AOp
  guard : Option (Nat × Bool)
  deriving Inhabited

inductive C where
  | skip
  | reg (ops : List Op)
  | regD (ops : List Op) (wins : List (Nat × Nat × Nat))
  | seq (a b : C)
  | cond (c : X) (a b : C)
  | blk (id : Nat) (b : C)
  | loop (b : C)
  | exit (id : Nat)
  | ret
  | rf (f : X) (ps : List Nat) (a b : C)
  | thw (t : Nat)
  | bad
  deriving Inhabited

/-- How a value is told at a call's border: a slice as what may be nil where it is empty, of whatever capacity. -/
inductive CT where
  | id
  | sl (es : Nat) (c : CT)
  | agg (cs : List CT)
  deriving Inhabited

structure Fun where
  cin : List CT
  cout : List CT
  ntmps : Nat
  keep : Bool
  res : List (Nat × Option (Bool × Nat))
  body : C
  prim : Option (List AV → Option AV) := none
  deriving Inhabited

inductive Tr where
  | e
  | n (l : Tr) (v : AV) (r : Tr)
  deriving Inhabited

def Tr.get : Tr → Nat → AV
  | .e, _ => undef
  | .n _ v _, 0 => v
  | .n l _ r, i + 1 => cond (Nat.beq (i % 2) 0) (l.get (i / 2)) (r.get (i / 2))

def Tr.set : Nat → Tr → Nat → AV → Tr
  | 0, t, _, _ => t
  | _ + 1, .e, 0, v => .n .e v .e
  | f + 1, .e, i + 1, v => cond (Nat.beq (i % 2) 0) (.n (Tr.set f .e (i / 2) v) undef .e) (.n .e undef (Tr.set f .e (i / 2) v))
  | _ + 1, .n l _ r, 0, v => .n l v r
  | f + 1, .n l w r, i + 1, v => cond (Nat.beq (i % 2) 0) (.n (Tr.set f l (i / 2) v) w r) (.n l w (Tr.set f r (i / 2) v))

inductive Box where
  | cells (T : Nat) (l : List AV)
  | map (es : List (AV × AV))
  | loop (st : Nat) (pend : Option C) (tm : Tr) (ps : List Nat) (a b : C)
  | siter (s : List Nat) (pos : Nat)
  | row (T : Nat) (l : List AV) (fz : Bool) (rm : Nat)
  | used
  deriving Inhabited

structure Tok where
  front : Nat
  ver : Nat
  pub : Nat
  ty : Option Nat
  deriving Inhabited

structure St where
  nb : Nat
  boxes : List Box
  nt : Nat
  toks : List (Option Tok)
  lo : Nat
  deriving Inhabited

inductive Ex where
  | n
  | x (id : Nat)
  | r
  deriving Inhabited

def St.new (s : St) (b : Box) : St := { s with nb := s.nb + 1, boxes := b :: s.boxes }
def St.box? (s : St) (id : Nat) : Option Box := cond (Nat.blt id s.nb) (s.boxes[s.nb - 1 - id]?) none
def St.setBox (s : St) (id : Nat) (b : Box) : St := { s with boxes := s.boxes.set (s.nb - 1 - id) b }
def St.newTok (s : St) (n : Nat) (T : Option Nat) : St := { s with nt := s.nt + 1, toks := some ⟨n, 0, 0, T⟩ :: s.toks }
def St.tok? (s : St) (k : Nat) : Option Tok := cond (Nat.blt k s.nt) (s.toks[s.nt - 1 - k]?).join none
def St.setTok (s : St) (k : Nat) (t : Tok) : St := { s with toks := s.toks.set (s.nt - 1 - k) (some t) }
/-- A row's newest slice is lost: the row is a box from now on. -/
def St.killTok (s : St) (k : Nat) : St := { s with toks := s.toks.set (s.nt - 1 - k) none }
/-- Nobody knows of it any more. -/
def Box.live : Box → Bool
  | .used => false
  | _ => true
/-- Nobody writes there any more. -/
def Box.frz : Box → Bool
  | .used => true
  | .row _ _ fz _ => fz
  | _ => false
/-- Is a slice of that mode still what it was? -/
def St.ok (s : St) : Cap → Bool
  | .tok k v => match s.tok? k with
    | some t => Nat.beq t.ver v
    | none => false
  | _ => true

def AV.cells : AV → List AV
  | .agg l => l
  | v => [v]

def X.ev (e : Tr) : X → AV
  | .t n => e.get n
  | .c v => v
def evX (e : Tr) : List X → List AV
  | [] => []
  | x :: l => x.ev e :: evX e l
def optX (e : Tr) : Option X → Option AV
  | none => none
  | some x => some (x.ev e)

/-- Values of one cell each. -/
def ones : List AV → Bool
  | [] => true
  | .agg _ :: _ => false
  | .tup _ :: _ => false
  | _ :: l => ones l

/-- Elements of n cells each. -/
def allLen (n : Nat) : List AV → Bool
  | [] => true
  | a :: l => (Nat.beq a.cells.length n && ones a.cells) && allLen n l

/-- A slice that is handed on: it stays what it is, whoever goes on with the row. -/
def pub (s : St) : AV → Option (AV × St)
  | .sl es xs (.tok k v) => match s.tok? k with
    | some t => if t.ver = v then some (.sl es xs .shut, s.setTok k { t with pub := max t.pub xs.length }) else none
    | none => none
  | .ep _ _ (.tok _ _) => none
  | .sd _ _ _ => none
  | a => some (a, s)
def pubL (s : St) : List AV → Option (List AV × St)
  | [] => some ([], s)
  | a :: l => match pub s a with
    | some (a, s) => match pubL s l with
      | some (l, s) => some (a :: l, s)
      | none => none
    | none => none

/-- The cells from off on, n of them. -/
def cut (l : List AV) (off n : Nat) : Option (List AV) :=
  let r := (l.drop off).take n
  if r.length = n then some r else none
/-- The cells with others written over them, from off on. -/
def over (l : List AV) (off : Nat) (vs : List AV) : Option (List AV) :=
  if off + vs.length ≤ l.length then some (l.take off ++ (vs ++ l.drop (off + vs.length))) else none

/-- .. or written on behind them, where there is room. -/
def overR (l : List AV) (off : Nat) (vs : List AV) (rm : Nat) : Option (List AV) :=
  if off ≤ l.length ∧ off + vs.length ≤ max l.length rm then some (l.take off ++ (vs ++ l.drop (off + vs.length))) else none

def beqN : List Nat → List Nat → Bool
  | [], [] => true
  | a :: l, b :: m => Nat.beq a b && beqN l m
  | _, _ => false
def ltN : List Nat → List Nat → Bool
  | _, [] => false
  | [], _ :: _ => true
  | a :: x, b :: y => Nat.blt a b || (Nat.beq a b && ltN x y)

def strOp (op : BinOp) (a b : List Nat) : Option AV :=
  match op with
  | .add => if a.length + b.length < 2 ^ 62 then some (.s (a ++ b)) else none
  | .eql => some (.b (beqN a b))
  | .neq => some (.b (!beqN a b))
  | .lss => some (.b (ltN a b))
  | .leq => some (.b (ltN a b || beqN a b))
  | .gtr => some (.b (!(ltN a b || beqN a b)))
  | .geq => some (.b (!ltN a b))
  | _ => none

def intOp (op : BinOp) (k : IntKind) (a b : Int) : Option AV :=
  match op with
  | .add => some (.i k (k.wrap (a + b)))
  | .sub => some (.i k (k.wrap (a - b)))
  | .mul => some (.i k (k.wrap (a * b)))
  | .quo => if b = 0 then none else some (.i k (k.wrap (a.tdiv b)))
  | .rem => if b = 0 then none else some (.i k (a.tmod b))
  | .and => some (.i k (k.wrap (BitVec.ofInt k.bits a &&& BitVec.ofInt k.bits b).toNat))
  | .or => some (.i k (k.wrap (BitVec.ofInt k.bits a ||| BitVec.ofInt k.bits b).toNat))
  | .xor => some (.i k (k.wrap (BitVec.ofInt k.bits a ^^^ BitVec.ofInt k.bits b).toNat))
  | .andNot => some (.i k (k.wrap (BitVec.ofInt k.bits a &&& ~~~ (BitVec.ofInt k.bits b)).toNat))
  | .eql => some (.b (a == b))
  | .neq => some (.b (a != b))
  | .lss => some (.b (decide (a < b)))
  | .leq => some (.b (decide (a ≤ b)))
  | .gtr => some (.b (decide (a > b)))
  | .geq => some (.b (decide (a ≥ b)))
  | _ => none

/-- Equality at a type that is no number's and no text's: a truth value; a pointer, slice, map, function or interface value against nil; two pointers into one box. -/
def eqB : AV → AV → Option Bool
  | .b a, .b b => some (a == b)
  | _, _ => none
def eqP : AV → AV → Option Bool
  | .np, .np => some true
  | .np, .p _ _ => some false
  | .p _ _, .np => some false
  | .np, .ep _ _ _ => some false
  | .ep _ _ _, .np => some false
  | .p a o, .p b q => if a = b then some (Nat.beq o q) else none
  | _, _ => none
def eqI : AV → AV → Option Bool
  | .ni, .ni => some true
  | .ni, .ifc _ _ => some false
  | .ifc _ _, .ni => some false
  | _, _ => none
def eqS : AV → AV → Option Bool
  | .nsl, .nsl => some true
  | .nsl, .sl _ _ _ => some false
  | .sl _ _ _, .nsl => some false
  | .nsl, .ws _ _ (_ :: _) => some false
  | .ws _ _ (_ :: _), .nsl => some false
  | .nsl, .bl _ _ _ _ _ => some false
  | .bl _ _ _ _ _, .nsl => some false
  | .nsl, .wz => some false
  | .wz, .nsl => some false
  | _, _ => none
def eqM : AV → AV → Option Bool
  | .nm, .nm => some true
  | .nm, .m _ => some false
  | .m _, .nm => some false
  | _, _ => none
def eqF : AV → AV → Option Bool
  | .nf, .nf => some true
  | .nf, .fn _ _ => some false
  | .fn _ _, .nf => some false
  | .nf, .yld _ => some false
  | .yld _, .nf => some false
  | _, _ => none
def eqv (k : EK) (x y : AV) : Option Bool :=
  match k with
  | .bool => eqB x y
  | .ptr => eqP x y
  | .ifc => eqI x y
  | .sl => eqS x y
  | .mp => eqM x y
  | .fn => eqF x y

def binOp (op : BinOp) (x y : AV) : Option AV :=
  match op, x, y with
  | .shl, .i k a, .i _ b => if b < 0 then none else some (.i k (k.wrap (a * 2 ^ (min b.toNat k.bits))))
  | .shr, .i k a, .i _ b => if b < 0 then none else some (.i k (a.fdiv (2 ^ (min b.toNat k.bits))))
  | op, .i k a, .i k' b => if k = k' then intOp op k a b else none
  | .gtr, .i .i64 a, .ige n => if a ≤ Int.ofNat n then some (.b false) else none
  | op, .s a, .s b => strOp op a b
  | _, _, _ => none

def unOp (op : UnOp) (x : AV) : Option AV :=
  match op, x with
  | .neg, .i k n => some (.i k (k.wrap (0 - n)))
  | .xor, .i k n => intOp .xor k (if k.signed then -1 else k.max) n
  | .not, .b x => some (.b (!x))
  | _, _ => none

/-- Two keys of a map: 0: numbers, 1: texts, 2: truth values. -/
def keyEq (kk : Nat) (a b : AV) : Option Bool :=
  match kk, a, b with
  | 0, .i k a, .i k' b => if k = k' then some (a == b) else none
  | 1, .s a, .s b => some (beqN a b)
  | 2, .b a, .b b => some (a == b)
  | _, _, _ => none
def findM (kk : Nat) (k : AV) : List (AV × AV) → Option (Option AV)
  | [] => some none
  | (a, v) :: l => match keyEq kk k a with
    | some true => some (some v)
    | some false => findM kk k l
    | none => none
def updM (kk : Nat) (k v : AV) : List (AV × AV) → Option (List (AV × AV))
  | [] => some [(k, v)]
  | (a, w) :: l => match keyEq kk k a with
    | some true => some ((a, v) :: l)
    | some false => match updM kk k v l with
      | some l => some ((a, w) :: l)
      | none => none
    | none => none

def natOf : AV → Option Nat
  | .i _ n => if 0 ≤ n then some n.toNat else none
  | _ => none

def byteOf : AV → Option Nat
  | .i .u8 n => if 0 ≤ n ∧ n < 256 then some n.toNat else none
  | _ => none
def bytesL : List AV → Option (List Nat)
  | [] => some []
  | a :: l => match byteOf a, bytesL l with
    | some n, some r => some (n :: r)
    | _, _ => none

def scal (agg : Bool) (l : List AV) : Option AV :=
  match agg, l with
  | true, l => some (.agg l)
  | false, [v] => some v
  | _, _ => none

/-- What stands in a box of cells. -/
def St.cells? (s : St) (id : Nat) : Option (List AV) := match s.box? id with
  | some (.cells _ l) => some l
  | some (.row _ l _ _) => some l
  | _ => none

def ldA (s : St) (agg : Bool) (n : Nat) (a : AV) : Option AV :=
  match a with
  | .p id off => match s.cells? id with
    | some l => match cut l off n with
      | some l => scal agg l
      | none => none
    | none => none
  | .ep l off m => if s.ok m then match cut l off n with
      | some l => scal agg l
      | none => none
    else none
  | _ => none

/-- Does a value bear an address, or a row of its own? -/
def AV.refs : AV → Bool
  | .p _ _ => true
  | .m _ => true
  | .yld _ => true
  | .fn _ caps => go caps
  | .ifc _ v => v.refs
  | .mth _ v => v.refs
  | .agg l => go l
  | .tup l => go l
  | .sl _ _ (.tok _ _) => true
  | .sl _ xs _ => go xs
  | .ws _ _ xs => go xs
  | .sd _ _ _ => true
  | .bl _ _ _ _ _ => true
  | .ep _ _ (.tok _ _) => true
  | .ep l _ _ => go l
  | _ => false
where
  go : List AV → Bool
    | [] => false
    | a :: l => a.refs || go l

def esc (s : St) (id : Nat) (v : AV) : St := if v.refs then { s with lo := min s.lo id } else s

def stA (s : St) (n : Nat) (a v : AV) : Option St :=
  match a with
  | .p id off =>
    match s.box? id with
    | some (.cells T l) => if v.cells.length = n ∧ ones v.cells = true then match over l off v.cells with
        | some l' => some (esc (s.setBox id (.cells T l')) id v)
        | none => none
      else none
    | some (.row T l false rm) => if v.cells.length = n ∧ ones v.cells = true then match overR l off v.cells rm with
        | some l' => some (esc (s.setBox id (.row T l' false rm)) id v)
        | none => none
      else none
    | _ => none
  | _ => none

def bounds (len : Nat) (lo hi : Option AV) : Option (Nat × Nat) :=
  let h := match hi with
    | some v => natOf v
    | none => some len
  let l := match lo with
    | some v => natOf v
    | none => some 0
  match l, h with
  | some l, some h => if l ≤ h ∧ h ≤ len then some (l, h) else none
  | _, _ => none

/-- What is known of the capacity of a slice over a box. -/
def blCap (es off n : Nat) (e : Nat × Bool) : Nat := max n ((e.1 - off) / es)

def sliceA (s : St) (pop : Bool) (e : Nat) (x : AV) (lo hi mx : Option AV) : Option (AV × St) :=
  match x with
  | .nsl => match bounds 0 lo hi, mx with
    | some _, none => some (.nsl, s)
    | some _, some v => match natOf v with
      | some 0 => some (.nsl, s)
      | _ => none
    | none, _ => none
  | .sl es xs m =>
    match (if e = es then bounds xs.length lo hi else none) with
    | none => none
    | some (l, h) =>
      let ys := (xs.drop l).take (h - l)
      match mx with
      | some v => match natOf v with
        | some c => if c = h then match pub s (.sl es xs m) with
            | some (_, s) => some (.sl es ys .full, s)
            | none => none
          else none
        | none => none
      | none =>
        if l = 0 ∧ h = xs.length then some (x, s)
        else match m with
          | .tok k v =>
            match s.tok? k with
            | some t =>
              if t.ver = v then
                if pop && Nat.beq l 0 && Nat.beq t.front xs.length && Nat.ble t.pub h then
                  some (.sl es ys (.tok k (v + 1)), s.setTok k ⟨h, v + 1, t.pub, t.ty⟩)
                else some (.sl es ys .shut, s.setTok k { t with pub := max t.pub xs.length })
              else none
            | none => none
          | .full => if h = xs.length then some (.sl es ys .full, s) else some (.sl es ys .shut, s)
          | .shut => some (.sl es ys .shut, s)
  | .ws f es xs =>
    match (if e = es then bounds xs.length lo hi else none) with
    | none => none
    | some (l, h) => match mx with
      | some v => match natOf v with
        | some c => if c = h then some (.ws true es ((xs.drop l).take (h - l)), s) else none
        | none => none
      | none => if l = 0 ∧ h = xs.length then some (.ws f es xs, s) else some (.ws false es ((xs.drop l).take (h - l)), s)
  | .wz => match bounds 0 lo hi, mx with
    | some _, none => some (.wz, s)
    | some _, some v => match natOf v with
      | some 0 => some (.wz, s)
      | _ => none
    | none, _ => none
  | .bl id e' off n x =>
    match (if e = e' then bounds (if hi.isSome then blCap e off n x else n) lo hi else none) with
    | none => none
    | some (l, h) => match mx with
      | none => some (.bl id e (off + l * e) (h - l) x, s)
      | some v => match natOf v with
        | some c => if h ≤ c ∧ c ≤ blCap e off n x then some (.bl id e (off + l * e) (h - l) (off + c * e, true), s) else none
        | none => none
  | _ => none

/-- What stands in a box, n cells from off on. -/
def rowB (s : St) (id off n : Nat) : Option (List AV) := match s.cells? id with
  | some l => cut l off n
  | none => none

def flatC : List AV → List AV
  | [] => []
  | a :: l => a.cells ++ flatC l
/-- The elements of n cells each that stand in some cells. -/
def chunk (es : Nat) : Nat → List AV → List AV
  | 0, _ => []
  | n + 1, l => (if es = 1 then (l.take 1) else [AV.agg (l.take es)]) ++ chunk es n (l.drop es)

/-- The newest slice of a row of its own, none of which was handed on: the row is a box from now on, and the slice one over it. -/
def thawA (s : St) : AV → Option (AV × St)
  | .sl es xs (.tok k v) => match s.tok? k with
    | some ⟨fr, ve, pu, some T⟩ => if ve = v ∧ fr = xs.length ∧ pu = 0 then some (.bl s.nb es 0 xs.length (xs.length * es, false), (s.killTok k).new (.row T (flatC xs) false 0)) else some (.sl es xs (.tok k v), s)
    | _ => some (.sl es xs (.tok k v), s)
  | v => some (v, s)

/-- A slice over a row that is a box is handed on for good: nobody writes into the row any more. -/
def frz (s : St) : AV → Option (AV × St)
  | .bl id es off n x => match s.box? id with
    | some (.row T l _ rm) => match cut l off (n * es) with
      | some cs => if off ≤ l.length ∧ ones cs = true ∧ 1 ≤ es then some (.sl es (chunk es n cs) .shut, s.setBox id (.row T l true rm)) else none
      | none => none
    | _ => some (.bl id es off n x, s)
  | a => pub s a
def frzL (s : St) : List AV → Option (List AV × St)
  | [] => some ([], s)
  | a :: l => match frz s a with
    | some (a, s) => match frzL s l with
      | some (l, s) => some (a :: l, s)
      | none => none
    | none => none

def elems (s : St) (es : Nat) : AV → Option (List AV)
  | .nsl => some []
  | .wz => some []
  | .sl e ys m => if e = es ∧ s.ok m = true then some ys else none
  | .ws _ e ys => if e = es then some ys else none
  | .s l => if es = 1 then some (l.map fun n => AV.i .u8 (Int.ofNat n)) else none
  | .bl id e off n _ => if e = es ∧ 1 ≤ es then match rowB s id off (n * es) with
      | some ys => if ones ys = true then some (chunk es n ys) else none
      | none => none
    else none
  | _ => none

/-- A call's result, told at once, or made a box at once. -/
def shutA : Bool → St → AV → Option (AV × St)
  | true, s, v => thawA s v
  | false, s, v => pub s v

def tyOk : Option Nat → Nat → Bool
  | none, _ => true
  | some a, b => Nat.beq a b

def appA (s : St) (es T : Nat) (x y : AV) : Option (AV × St) :=
  match elems s es y with
  | none => none
  | some [] => match x with
    | .nsl => some (x, s)
    | .wz => some (x, s)
    | .sl _ _ _ => some (x, s)
    | .ws _ _ _ => some (x, s)
    | .bl _ _ _ _ _ => some (x, s)
    | _ => none
  | some (a :: l) =>
    let ys := a :: l
    match x with
    | .wz => if ys.length * es < 2 ^ 38 then some (.sl es ys (.tok s.nt 0), s.newTok ys.length (some T)) else none
    | .nsl => if ys.length * es < 2 ^ 38 then some (.sl es ys (.tok s.nt 0), s.newTok ys.length (some T)) else none
    | .sl e xs .full => if e = es ∧ (xs.length + ys.length) * es < 2 ^ 38 then some (.sl es (xs ++ ys) (.tok s.nt 0), s.newTok (xs.length + ys.length) (some T)) else none
    | .sl e xs (.tok k v) =>
      match s.tok? k with
      | some t => if e = es ∧ t.ver = v ∧ t.front = xs.length ∧ tyOk t.ty T = true ∧ (xs.length + ys.length) * es < 2 ^ 38 then
          some (.sl es (xs ++ ys) (.tok k v), s.setTok k { t with front := xs.length + ys.length })
        else none
      | none => none
    | .ws true e xs => if e = es ∧ (xs.length + ys.length) * es < 2 ^ 38 then some (.sl es (xs ++ ys) (.tok s.nt 0), s.newTok (xs.length + ys.length) (some T)) else none
    | .bl id e off n q =>
      if e = es ∧ q.2 = true ∧ q.1 < off + (n + ys.length) * es ∧ (n + ys.length) * es < 2 ^ 38 then match rowB s id off (n * es) with
        | some cs => if ones cs = true then some (.sl es (chunk es n cs ++ ys) (.tok s.nt 0), s.newTok (n + ys.length) (some T)) else none
        | none => none
      else if e = es ∧ off + (n + ys.length) * es ≤ q.1 then match stA s (ys.length * es) (.p id (off + n * es)) (.agg (flatC ys)) with
        | some s' => some (.bl id es off (n + ys.length) q, s')
        | none => none
      else none
    | _ => none

/-- .. and what is left is told at once. -/
def appQA (s : St) (es T : Nat) (x y : AV) : Option (AV × St) := match appA s es T x y with
  | some (v, s) => pub s v
  | none => none

def idxB (c n : Nat) : List Nat → Int
  | [] => -1
  | a :: l => cond (Nat.beq a c) (Int.ofNat n) (idxB c (n + 1) l)
def isPre : List Nat → List Nat → Bool
  | [], _ => true
  | a :: l, b :: m => Nat.beq a b && isPre l m
  | _ :: _, [] => false

/-- Functions without a body: 0 IndexByteString, 1 NoEscape, 2 MakeNoZero. -/
def extA (s : St) (row : Nat) (args : List AV) : Option (AV × St) :=
  match row, args with
  | 0, [.s l, .i k c] => if k = .u8 ∧ 0 ≤ c ∧ c < 256 then some (.i .i64 (idxB c.toNat 0 l), s) else none
  | 1, [v] => some (v, s)
  | _, _ => none

/- Two values, cell by cell. -/
mutual
def beqA : AV → AV → Bool
  | .b x, .b y => x == y
  | .i k n, .i k' n' => decide (k = k') && decide (n = n')
  | .s l, .s l' => beqN l l'
  | .np, .np => true
  | .p x o, .p x' o' => Nat.beq x x' && Nat.beq o o'
  | .ep l o c, .ep l' o' c' => beqAL l l' && (Nat.beq o o' && decide (c = c'))
  | .nsl, .nsl => true
  | .wz, .wz => true
  | .sl e l c, .sl e' l' c' => Nat.beq e e' && (beqAL l l' && decide (c = c'))
  | .ws f e l, .ws f' e' l' => (f == f') && (Nat.beq e e' && beqAL l l')
  | .bl i e o n x, .bl i' e' o' n' x' => Nat.beq i i' && (Nat.beq e e' && (Nat.beq o o' && (Nat.beq n n' && (Nat.beq x.1 x'.1 && (x.2 == x'.2)))))
  | .ige n, .ige m => Nat.beq n m
  | .sd l k v, .sd l' k' v' => beqAL l l' && (Nat.beq k k' && Nat.beq v v')
  | .nm, .nm => true
  | .m x, .m x' => Nat.beq x x'
  | .nf, .nf => true
  | .fn f l, .fn f' l' => Nat.beq f f' && beqAL l l'
  | .yld x, .yld x' => Nat.beq x x'
  | .ni, .ni => true
  | .ifc t v, .ifc t' v' => Nat.beq t t' && beqA v v'
  | .mth n v, .mth n' v' => beqN n n' && beqA v v'
  | .agg l, .agg l' => beqAL l l'
  | .tup l, .tup l' => beqAL l l'
  | _, _ => false
def beqAL : List AV → List AV → Bool
  | [], [] => true
  | x :: l, x' :: l' => beqA x x' && beqAL l l'
  | _, _ => false
end

def beqM : List (AV × AV) → List (AV × AV) → Bool
  | [], [] => true
  | (a, b) :: l, (a', b') :: l' => beqA a a' && (beqA b b' && beqM l l')
  | _, _ => false
def beqBox : Box → Box → Bool
  | .cells T l, .cells T' l' => Nat.beq T T' && beqAL l l'
  | .map es, .map es' => beqM es es'
  | .siter s p, .siter s' p' => beqN s s' && Nat.beq p p'
  | .row T l z r, .row T' l' z' r' => Nat.beq T T' && (beqAL l l' && ((z == z') && Nat.beq r r'))
  | .used, .used => true
  | _, _ => false
def beqBL : List Box → List Box → Bool
  | [], [] => true
  | a :: l, b :: m => beqBox a b && beqBL l m
  | _, _ => false
def beqO : Option Nat → Option Nat → Bool
  | none, none => true
  | some a, some b => Nat.beq a b
  | _, _ => false
def beqTL : List (Option Tok) → List (Option Tok) → Bool
  | [], [] => true
  | none :: l, none :: m => beqTL l m
  | some a :: l, some b :: m => (Nat.beq a.front b.front && (Nat.beq a.ver b.ver && (Nat.beq a.pub b.pub && beqO a.ty b.ty))) && beqTL l m
  | _, _ => false
def beqSt (a b : St) : Bool := Nat.beq a.nb b.nb && (Nat.beq a.nt b.nt && (Nat.beq a.lo b.lo && (beqBL a.boxes b.boxes && beqTL a.toks b.toks)))

/-- What a call leaves: where nothing of it is known outside, its boxes and rows are gone. -/
def leave (s s1 : St) (v : AV) : St :=
  if Nat.ble s.nb s1.lo && !v.refs then
    { nb := s.nb, boxes := s1.boxes.drop (s1.nb - s.nb), nt := s.nt, toks := s1.toks.drop (s1.nt - s.nt), lo := s.lo }
  else { s1 with lo := min s.lo s1.lo }

def repL : Nat → List AV → List AV
  | 0, _ => []
  | n + 1, z => z ++ repL n z

/-- At most the first n elements. -/
def trimA (n : Nat) : AV → AV
  | .bl id e off m q => .bl id e off (min m n) q
  | a => a
/-- Elements written over those of a slice over a box. -/
def cpA (s : St) (es : Nat) (x y : AV) : Option (AV × St) := match x with
  | .bl id e off n _ => if e = es ∧ 1 ≤ es then match elems s es (trimA n y) with
      | some ys => if ys.length ≤ n ∧ 1 ≤ ys.length then match stA s (ys.length * es) (.p id off) (.agg (flatC ys)) with
          | some s' => some (.i .i64 (Int.ofNat ys.length), s')
          | none => none
        else none
      | none => none
    else none
  | _ => none
/-- Zero values put behind a slice over a box, where there is no room for them. -/
def apzA (s : St) (es T : Nat) (z : List AV) (x k : AV) : Option (AV × St) := match x, k with
  | .bl id e off n q, .i _ m =>
    if e = es ∧ q.2 = true ∧ 0 ≤ m ∧ q.1 < off + (n + m.toNat) * es ∧ (n + m.toNat) * es < 2 ^ 38 then match rowB s id off (n * es) with
      | some cs => if ones (cs ++ repL m.toNat z) = true then some (.sl es (chunk es (n + m.toNat) (cs ++ repL m.toNat z)) (.tok s.nt 0), s.newTok (n + m.toNat) (some T)) else none
      | none => none
    else none
  | _, _ => none
/-- A slice that nobody writes into, and one over a box, do not lie in one place. -/
def ovlA (s : St) (es : Nat) (x y : AV) : Bool := match y with
  | .bl id _ _ _ _ => match s.box? id with
    | some (.row _ _ false _) => match x with
      | .sl e (_ :: _) .full => Nat.beq e es
      | .sl e (_ :: _) .shut => Nat.beq e es
      | .ws _ e (_ :: _) => Nat.beq e es
      | _ => false
    | _ => false
  | _ => false
/-- The newest slice of a row, none of which was handed on. -/
def splitT (s : St) : AV → Option (Nat × List AV × Nat × Nat)
  | .sl es xs (.tok k v) => match s.tok? k with
    | some ⟨fr, ve, pu, some T⟩ => if ve = v ∧ fr = xs.length ∧ pu = 0 then some (es, xs, k, T) else none
    | _ => none
  | _ => none
def bothI (s : St) : Option (AV × St) → Option (AV × St) → Option (AV × St)
  | some (rA, tA), some (rB, tB) => if beqA rA rB = true ∧ beqSt (leave s tA rA) (leave s tB rB) = true then some (rA, leave s tA rA) else none
  | _, _ => none
/-- The row as a box, with so much room. -/
def St.asBox (s : St) (k T : Nat) (xs : List AV) (rm : Nat) : St := ({ s.killTok k with lo := s.nb } : St).new (.row T (flatC xs) false rm)

structure Self where
  call : Nat → List AV → St → Option (AV × St)
  code : C → Tr → St → Option (Ex × Tr × St)

def evParts (e : Tr) (s : St) : List (Nat × Nat × X) → List AV → Option (List AV × St)
  | [], l => some (l, s)
  | (off, n, x) :: r, l => match pub s (x.ev e) with
    | none => none
    | some (a, s) => if a.cells.length = n then match over l off a.cells with
        | some l => evParts e s r l
        | none => none
      else none

def putL : List Nat → List AV → Tr → Option Tr
  | [], [], t => some t
  | p :: ps, v :: vs, t => putL ps vs (t.set 10 p v)
  | _, _, _ => none

def endY (s : St) (l : Nat) (j : Option C) : Option (AV × St) :=
  match s.box? l with
  | some (.loop 1 none tm ps a b) => some (.b j.isNone, s.setBox l (.loop (if j.isNone then 0 else 2) j tm ps a b))
  | _ => none

def callV (self : Self) (f : AV) (args : List AV) (s : St) : Option (AV × St) :=
  match f with
  | .fn g caps => self.call g (args ++ caps) s
  | .yld l =>
    match s.box? l with
    | some (.loop 0 none tm ps a b) =>
      match putL ps args tm with
      | none => none
      | some t =>
        match self.code a t s with
        | some (.n, t, s) =>
          match s.box? l with
          | some (.loop 0 none tm' ps' a' b') =>
            match self.code b t (s.setBox l (.loop 1 none tm' ps' a' b')) with
            | some (.n, _, s) => endY s l none
            | some (.x id, _, s) => endY s l (some (.exit id))
            | some (.r, _, s) => endY s l (some .ret)
            | none => none
          | _ => none
        | _ => none
    | _ => none
  | _ => none

def ret1 (s : St) (v : Option AV) : Option (AV × St) := match v with
  | some v => some (v, s)
  | none => none

def lenA (s : St) (k : Nat) (x : AV) : Option AV :=
  match k, x with
  | 0, .s l => some (.i .i64 (Int.ofNat l.length))
  | 1, .nsl => some (.i .i64 0)
  | 1, .wz => some (.i .i64 0)
  | 1, .sl _ l _ => some (.i .i64 (Int.ofNat l.length))
  | 1, .ws _ _ l => some (.i .i64 (Int.ofNat l.length))
  | 1, .bl _ _ _ n _ => some (.i .i64 (Int.ofNat n))
  | 2, .nm => some (.i .i64 0)
  | 2, .m id => match s.box? id with
    | some (.map es) => some (.i .i64 (Int.ofNat es.length))
    | _ => none
  | _, _ => none

/-- Where a slice of bytes lies. -/
def udA (s : St) : AV → Option (AV × St)
  | .nsl => some (.np, s)
  | .sl 1 (a :: l) (.tok k v) => some (.sd (a :: l) k v, s)
  | _ => none
/-- The bytes that lie there, as a text: nobody writes there any more. -/
def usA (s : St) (T : Nat) (x n : AV) : Option (AV × St) :=
  match x, n with
  | .np, .i .i64 n => if n = 0 then some (.s [], s) else none
  | .sd l k v, .i .i64 n => match s.tok? k, bytesL l with
    | some t, some bs => if t.ver = v ∧ t.ty = some T ∧ t.front = l.length ∧ n = Int.ofNat l.length ∧ 1 ≤ l.length ∧ l.length < 2 ^ 62 then some (.s bs, s.setTok k ⟨t.front, t.ver, t.front, t.ty⟩) else none
    | _, _ => none
  | _, _ => none

/-- A rune as a text. -/
def encN (n : Int) : List Nat := (Utf8.encode n).data.toList.map (·.toNat)

def evOp (self : Self) (e : Tr) (s : St) : AOp → Option (AV × St)
  | .mv x => some (x.ev e, s)
  | .pick c a b => match c.ev e with
    | .b true => some (a.ev e, s)
    | .b false => some (b.ev e, s)
    | _ => none
  | .alloc T z => some (.p s.nb 0, s.new (.cells T z))
  | .box T n x =>
    if (x.ev e).cells.length = n then some (.p s.nb 0, s.new (.cells T (x.ev e).cells)) else none
  | .adp T z n x => match stA (s.new (.cells T z)) n (.p s.nb 0) (x.ev e) with
    | some s' => some (.p s.nb 0, s')
    | none => none
  | .build z parts => match evParts e s parts z with
    | some (l, s) => some (.agg l, s)
    | none => none
  | .bsl es xs => match pubL s (evX e xs) with
    | some (vs, s) => if 1 ≤ es ∧ allLen es vs = true then some (.sl es vs .full, s) else none
    | none => none
  | .ld agg n x => match ldA s agg n (x.ev e) with
    | some (.agg l) => match pubL s l with
      | some (l, s) => some (.agg l, s)
      | none => none
    | some v => some (v, s)
    | none => none
  | .st n a v => match stA s n (a.ev e) (v.ev e) with
    | some s => some (undef, s)
    | none => none
  | .nck x => match x.ev e with
    | .p id off => some (.p id off, s)
    | .ep l o m => some (.ep l o m, s)
    | .fn f l => some (.fn f l, s)
    | .ifc t v => some (.ifc t v, s)
    | _ => none
  | .bin op x y => ret1 s (binOp op (x.ev e) (y.ev e))
  | .eq k neg x y => match eqv k (x.ev e) (y.ev e) with
    | some r => some (.b (xor neg r), s)
    | none => none
  | .un op x => ret1 s (unOp op (x.ev e))
  | .cvI k x => match x.ev e with
    | .i _ n => some (.i k (k.wrap n), s)
    | _ => none
  | .cvId x => match x.ev e with
    | .s l => some (.s l, s)
    | _ => none
  | .cvRS x => match x.ev e with
    | .i _ n => some (.s (encN n), s)
    | _ => none
  | .cvBS x => match x.ev e with
    | .nsl => some (.s [], s)
    | .wz => some (.s [], s)
    | .sl _ xs m => if s.ok m then match bytesL xs with
        | some l => some (.s l, s)
        | none => none
      else none
    | .ws _ _ xs => match bytesL xs with
        | some l => some (.s l, s)
        | none => none
    | .bl id es off n _ => if es = 1 then match rowB s id off n with
        | some ys => match bytesL ys with
          | some l => some (.s l, s)
          | none => none
        | none => none
      else none
    | _ => none
  | .cvSB T x => match x.ev e with
    | .s l => if l.length < 2 ^ 38 then some (.sl 1 (l.map fun n => AV.i .u8 (Int.ofNat n)) (.tok s.nt 0), s.newTok l.length none) else none
    | _ => none
  | .cvU T n x => match x.ev e with
    | .p id 0 => match s.box? id with
      | some (.cells T' l) => if T' = T ∧ l.length = n ∧ 1 ≤ n then some (.p id 0, s) else none
      | _ => none
    | _ => none
  | .ud x => udA s (x.ev e)
  | .us T x n => usA s T (x.ev e) (n.ev e)
  | .cp0 es x y => match lenA s 1 (x.ev e), lenA s 1 (y.ev e) with
    | some (.i _ a), some (.i _ b) => if a = 0 ∨ b = 0 then some (.i .i64 0, s) else cpA s es (x.ev e) (y.ev e)
    | _, _ => none
  | .apz es T z x k => apzA s es T z (x.ev e) (k.ev e)
  | .ovl es x y => match ovlA s es (x.ev e) (y.ev e) with
    | true => some (.b false, s)
    | false => none
  | .mnz T x => match x.ev e with
    | .i .i64 n => if 0 ≤ n ∧ n < 2 ^ 38 then some (.sl 1 (List.replicate n.toNat .any) (.tok s.nt 0), s.newTok n.toNat (some T)) else none
    | _ => none
  | .mki t x => match pub s (x.ev e) with
    | some (v, s) => some (.ifc t v, s)
    | none => none
  | .mkf f caps => match pubL s (evX e caps) with
    | some (vs, s) => some (.fn f vs, s)
    | none => none
  | .mkM nm x => match x.ev e with
    | .ifc t v => some (.mth nm (.ifc t v), s)
    | _ => none
  | .nckM nm tab x => match x.ev e with
    | .mth nm' (.ifc t v) => if beqN nm nm' = true ∧ (tab.lookup t).isSome = true then some (.mth nm' (.ifc t v), s) else none
    | _ => none
  | .clr es z x => match x.ev e with
    | .nsl => some (undef, s)
    | .bl id e' off n _ => if e' = es ∧ 1 ≤ es then (if n = 0 then some (undef, s) else match stA s (n * es) (.p id off) (.agg (repL n z)) with
        | some s' => some (undef, s')
        | none => none) else none
    | _ => none
  | .mkm => some (.m s.nb, s.new (.map []))
  | .ins kk m k v => match m.ev e, pub s (v.ev e) with
    | .m id, some (v, s) => match s.box? id with
        | some (.map es) => match updM kk (k.ev e) v es with
          | some es => some (undef, esc (esc (s.setBox id (.map es)) id (k.ev e)) id v)
          | none => none
        | _ => none
    | _, _ => none
  | .look kk z ok m k =>
    let es := match m.ev e with
      | .nm => some []
      | .m id => match s.box? id with
        | some (.map es) => some es
        | _ => none
      | _ => none
    match es with
    | none => none
    | some es => match findM kk (k.ev e) es with
      | none => none
      | some none => some (if ok then .tup [z, .b false] else z, s)
      | some (some v) => some (if ok then .tup [v, .b true] else v, s)
  | .slS x lo hi => match x.ev e with
    | .s l => match bounds l.length (optX e lo) (optX e hi) with
      | some (a, b) => some (.s ((l.drop a).take (b - a)), s)
      | none => none
    | _ => none
  | .slc pop es x lo hi mx => sliceA s pop es (x.ev e) (optX e lo) (optX e hi) (optX e mx)
  | .slcA len es x lo hi => match x.ev e, bounds len (optX e lo) (optX e hi) with
    | .p id off, some (l, h) => some (.bl id es (off + l * es) (h - l) (off + len * es, true), s)
    | _, _ => none
  | .mks T es z n c => match n.ev e, c.ev e with
    | .i _ n, .i _ c => if 0 ≤ n ∧ n ≤ c ∧ c * es < 2 ^ 38 ∧ c < 2 ^ 38 then some (.bl s.nb es 0 n.toNat (c.toNat * es, true), s.new (.cells T (repL c.toNat z))) else none
    | _, _ => none
  | .fa off x => match x.ev e with
    | .p id o => some (.p id (o + off), s)
    | .ep l o m => some (.ep l (o + off) m, s)
    | _ => none
  | .fld agg off n x => match x.ev e with
    | .agg l => match cut l off n with
      | some l => ret1 s (scal agg l)
      | none => none
    | _ => none
  | .ia es x i => match x.ev e, natOf (i.ev e) with
    | .sl e xs m, some n => if e = es then match xs[n]? with
        | some v => some (.ep v.cells 0 m, s)
        | none => none
      else none
    | .ws _ e xs, some n => if e = es then match xs[n]? with
        | some v => some (.ep v.cells 0 .shut, s)
        | none => none
      else none
    | .bl id e off m _, some n => if e = es ∧ n < m then some (.p id (off + n * es), s) else none
    | _, _ => none
  | .iaA len es x i => match natOf (i.ev e) with
    | some n => if n < len then match x.ev e with
        | .p id o => some (.p id (o + n * es), s)
        | .ep l o m => some (.ep l (o + n * es) m, s)
        | _ => none
      else none
    | none => none
  | .ixS x i => match x.ev e, natOf (i.ev e) with
    | .s l, some n => match l[n]? with
      | some c => some (.i .u8 (Int.ofNat c), s)
      | none => none
    | _, _ => none
  | .ixA len es agg x i => match x.ev e, natOf (i.ev e) with
    | .agg l, some n => if n < len then match cut l (n * es) es with
        | some l => ret1 s (scal agg l)
        | none => none
      else none
    | _, _ => none
  | .tas t ok z x => match x.ev e with
    | .ifc u v => if u = t then some (if ok then .tup [v, .b true] else v, s) else if ok then some (.tup [z, .b false], s) else none
    | .ni => if ok then some (.tup [z, .b false], s) else none
    | _ => none
  | .tasI ts ok x => match x.ev e with
    | .ifc u v => if ts.contains u then some (if ok then .tup [.ifc u v, .b true] else .ifc u v, s) else if ok then some (.tup [.ni, .b false], s) else none
    | .ni => if ok then some (.tup [.ni, .b false], s) else none
    | _ => none
  | .ext x n => match x.ev e with
    | .tup l => ret1 s l[n]?
    | _ => none
  | .call f args => match pubL s (evX e args) with
    | some (vs, s) => self.call f vs s
    | none => none
  | .callK f args => self.call f (evX e args) s
  | .callQ b f args => match pubL s (evX e args) with
    | some (vs, s) => match self.call f vs s with
      | some (v, s) => shutA b s v
      | none => none
    | none => none
  | .callI f args => match evX e args with
    | [] => none
    | x :: l => match pubL s l with
      | none => none
      | some (vs, s) => match splitT s x with
        | some (es, xs, k, T) => bothI (s.killTok k) (self.call f (.bl s.nb es 0 xs.length (xs.length * es, true) :: vs) (s.asBox k T xs 0))
            (self.call f (.bl s.nb es 0 xs.length ((xs.length + 1) * es, false) :: vs) (s.asBox k T xs ((xs.length + 1) * es)))
        | none => match pub s x with
          | some (v, s) => self.call f (v :: vs) s
          | none => none
  | .callX f args => match pubL s (evX e args) with
    | some (vs, s) => callV self (f.ev e) vs s
    | none => none
  | .inv tab r args => match r.ev e, pubL s (evX e args) with
    | .ifc t v, some (vs, s) => match tab.lookup t with
      | some f => self.call f (v :: vs) s
      | none => none
    | _, _ => none
  | .len k x => ret1 s (lenA s k (x.ev e))
  | .cap x => match x.ev e with
    | .nsl => some (.i .i64 0, s)
    | .wz => some (.i .i64 0, s)
    | .sl _ l .full => some (.i .i64 (Int.ofNat l.length), s)
    | .bl _ es off _ (x, true) => if 1 ≤ es ∧ off ≤ x then some (.i .i64 (Int.ofNat ((x - off) / es)), s) else none
    | .bl _ es off n (x, false) => if 1 ≤ es then some (.ige (blCap es off n (x, false)), s) else none
    | _ => none
  | .app es T x y => appA s es T (x.ev e) (y.ev e)
  | .appQ es T x y => appQA s es T (x.ev e) (y.ev e)
  | .mm mx x y => match x.ev e, y.ev e with
    | .i k a, .i _ b => some (.i k (if mx then (if b > a then b else a) else (if b < a then b else a)), s)
    | _, _ => none
  | .siter x => match x.ev e with
    | .s l => some (.p s.nb 0, s.new (.siter l 0))
    | _ => none
  | .snext x => match x.ev e with
    | .p id 0 => match s.box? id with
      | some (.siter l pos) =>
        match l[pos]? with
        | none => some (.tup [.b false], s)
        | some c =>
          if c < 128 then some (.tup [.b true, .i .i64 (Int.ofNat pos), .i .i32 (Int.ofNat c)], s.setBox id (.siter l (pos + 1)))
          else let r := Utf8.decode ⟨(l.map UInt8.ofNat).toArray⟩ pos
            some (.tup [.b true, .i .i64 (Int.ofNat pos), .i .i32 r.1], s.setBox id (.siter l (pos + r.2)))
      | _ => none
    | _ => none
  | .xtn r args => extA s r (evX e args)
  | .bad => none

def put (e : Tr) (d : Option Nat) (v : AV) : Tr := match d with
  | some d => e.set 10 d v
  | none => e

def wants (e : Tr) : Option (Nat × Bool) → Bool
  | none => true
  | some (t, w) => match e.get t with
    | .b x => x == w
    | _ => false

def evOps (self : Self) : List Op → Tr → St → Option (Tr × St)
  | [], e, s => some (e, s)
  | o :: l, e, s =>
    if wants e o.guard then match evOp self e s o.op with
      | some (v, s) => evOps self l (put e o.dst v) s
      | none => none
    else evOps self l (put e o.dst undef) s

/-! ### Regions that draw their order -/
def noTok : AV → Bool
  | .sl _ _ (.tok _ _) => false
  | .ep _ _ (.tok _ _) => false
  | .sd _ _ _ => false
  | _ => true

/-- 0: hangs on its operands alone · 1: reads the state · 2: may change it. -/
def AOp.cls : AOp → Nat
  | .mv _ => 0
  | .pick _ _ _ => 0
  | .nck _ => 0
  | .bin _ _ _ => 0
  | .eq _ _ _ _ => 0
  | .un _ _ => 0
  | .cvI _ _ => 0
  | .cvId _ => 0
  | .cvRS _ => 0
  | .slS _ _ _ => 0
  | .slc p _ _ _ _ _ => if p then 2 else 0
  | .slcA _ _ _ _ _ => 0
  | .fa _ _ => 0
  | .fld _ _ _ _ => 0
  | .ia _ _ _ => 0
  | .iaA _ _ _ _ => 0
  | .ixS _ _ => 0
  | .ixA _ _ _ _ _ => 0
  | .tas _ _ _ _ => 0
  | .tasI _ _ _ => 0
  | .ext _ _ => 0
  | .cap _ => 0
  | .mm _ _ _ => 0
  | .mki _ _ => 0
  | .bsl _ _ => 0
  | .build _ _ => 0
  | .mkf _ _ => 0
  | .mkM _ _ => 0
  | .nckM _ _ _ => 0
  | .len k _ => if Nat.ble k 1 then 0 else 1
  | .ld _ _ _ => 1
  | .cvBS _ => 1
  | .ud _ => 0
  | .cvU _ _ _ => 1
  | .cp0 _ _ _ => 2
  | .apz _ _ _ _ _ => 2
  | .ovl _ _ _ => 2
  | .look _ _ _ _ _ => 1
  | _ => 2

/-- What must hold for an operation of the classes 0 and 1 to leave the state as it is. -/
def quiet (e : Tr) (s : St) : AOp → Bool
  | .ld agg n x => match ldA s agg n (x.ev e) with
    | some (.agg l) => l.all noTok
    | _ => true
  | .slc _ _ x _ _ _ => noTok (x.ev e)
  | .mki _ x => noTok (x.ev e)
  | .bsl _ xs => (evX e xs).all noTok
  | .build _ ps => ps.all fun p => noTok (p.2.2.ev e)
  | .mkf _ xs => (evX e xs).all noTok
  | _ => true

def X.tmps : X → List Nat
  | .t n => [n]
  | .c _ => []
def Xs.tmps : List X → List Nat
  | [] => []
  | x :: l => x.tmps ++ Xs.tmps l
def Xo.tmps : Option X → List Nat
  | none => []
  | some x => x.tmps
def Xp.tmps : List (Nat × Nat × X) → List Nat
  | [] => []
  | (_, _, x) :: l => x.tmps ++ Xp.tmps l

def AOp.tmps : AOp → List Nat
  | .mv x => x.tmps
  | .pick c a b => c.tmps ++ (a.tmps ++ b.tmps)
  | .alloc _ _ => []
  | .box _ _ x => x.tmps
  | .adp _ _ _ x => x.tmps
  | .build _ ps => Xp.tmps ps
  | .bsl _ xs => Xs.tmps xs
  | .ld _ _ x => x.tmps
  | .st _ a v => a.tmps ++ v.tmps
  | .nck x => x.tmps
  | .bin _ x y => x.tmps ++ y.tmps
  | .eq _ _ x y => x.tmps ++ y.tmps
  | .un _ x => x.tmps
  | .cvI _ x => x.tmps
  | .cvId x => x.tmps
  | .cvRS x => x.tmps
  | .cvBS x => x.tmps
  | .cvSB _ x => x.tmps
  | .cvU _ _ x => x.tmps
  | .ud x => x.tmps
  | .us _ x n => x.tmps ++ n.tmps
  | .cp0 _ x y => x.tmps ++ y.tmps
  | .apz _ _ _ x y => x.tmps ++ y.tmps
  | .ovl _ x y => x.tmps ++ y.tmps
  | .mnz _ x => x.tmps
  | .mki _ x => x.tmps
  | .mkf _ xs => Xs.tmps xs
  | .mkM _ x => x.tmps
  | .nckM _ _ x => x.tmps
  | .clr _ _ x => x.tmps
  | .mkm => []
  | .ins _ m k v => m.tmps ++ (k.tmps ++ v.tmps)
  | .look _ _ _ m k => m.tmps ++ k.tmps
  | .slS x lo hi => x.tmps ++ (Xo.tmps lo ++ Xo.tmps hi)
  | .slc _ _ x lo hi mx => x.tmps ++ (Xo.tmps lo ++ (Xo.tmps hi ++ Xo.tmps mx))
  | .slcA _ _ x lo hi => x.tmps ++ (Xo.tmps lo ++ Xo.tmps hi)
  | .mks _ _ _ n c => n.tmps ++ c.tmps
  | .fa _ x => x.tmps
  | .fld _ _ _ x => x.tmps
  | .ia _ x i => x.tmps ++ i.tmps
  | .iaA _ _ x i => x.tmps ++ i.tmps
  | .ixS x i => x.tmps ++ i.tmps
  | .ixA _ _ _ x i => x.tmps ++ i.tmps
  | .tas _ _ _ x => x.tmps
  | .tasI _ _ x => x.tmps
  | .ext x _ => x.tmps
  | .call _ xs => Xs.tmps xs
  | .callK _ xs => Xs.tmps xs
  | .callQ _ _ xs => Xs.tmps xs
  | .callI _ xs => Xs.tmps xs
  | .callX f xs => f.tmps ++ Xs.tmps xs
  | .inv _ r xs => r.tmps ++ Xs.tmps xs
  | .len _ x => x.tmps
  | .cap x => x.tmps
  | .app _ _ x y => x.tmps ++ y.tmps
  | .appQ _ _ x y => x.tmps ++ y.tmps
  | .mm _ x y => x.tmps ++ y.tmps
  | .siter x => x.tmps
  | .snext x => x.tmps
  | .xtn _ xs => Xs.tmps xs
  | .bad => []

def Op.reads (o : Op) : List Nat := match o.guard with
  | none => o.op.tmps
  | some (t, _) => t :: o.op.tmps


/-- One operation of a region that draws. -/
def evD1 (self : Self) (c : Op) (e : Tr) (s : St) : Option (Tr × St) :=
  if wants e c.guard then
    if Nat.beq c.op.cls 2 || quiet e s c.op then match evOp self e s c.op with
      | some (v, s) => some (put e c.dst v, s)
      | none => none
    else none
  else some (put e c.dst undef, s)

/-- A region that draws, in the order in which it is written: where it stands ahead of each operation, and behind the last. -/
def traceD (self : Self) : List Op → Tr → St → Option (List (Tr × St))
  | [], e, s => some [(e, s)]
  | o :: l, e, s => match evD1 self o e s with
    | some (e1, s1) => match traceD self l e1 s1 with
      | some r => some ((e, s) :: r)
      | none => none
    | none => none

/-- Does an operation that reads the state read the same there? -/
def sameAt (self : Self) (e : Tr) (op : AOp) (v : AV) : Option (Tr × St) → Bool
  | some (_, s) => quiet e s op && (match evOp self e s op with
    | some (v', _) => beqA v v'
    | none => false)
  | none => false

def chkD (self : Self) (ops : List Op) (tr : List (Tr × St)) : List (Nat × Nat × Nat) → Bool
  | [] => true
  | (i, lo, hi) :: l => (match ops[i]?, tr[i]? with
    | some o, some (e, s) => !wants e o.guard || (match evOp self e s o.op with
      | some (v, _) => (List.range' lo (hi + 1 - lo)).all fun k => sameAt self e o.op v tr[k]?
      | none => false)
    | _, _ => false) && chkD self ops tr l

def lastD : List (Tr × St) → Option (Tr × St)
  | [] => none
  | [x] => some x
  | _ :: l => lastD l

def evD (self : Self) (ops : List Op) (wins : List (Nat × Nat × Nat)) (e : Tr) (s : St) : Option (Tr × St) :=
  match traceD self ops e s with
  | some tr => if chkD self ops tr wins then lastD tr else none
  | none => none

def endR (s : St) (l : Nat) (e : Tr) : Option (Ex × Tr × St) :=
  match s.box? l with
  | some (.loop st p _ _ _ _) =>
    if st = 1 then none else
    match p with
    | none => some (.n, e, s.setBox l .used)
    | some (.exit id) => some (.x id, e, s.setBox l .used)
    | some .ret => some (.r, e, s.setBox l .used)
    | _ => none
  | _ => none

def evC (self : Self) : C → Tr → St → Option (Ex × Tr × St)
  | .skip, e, s => some (.n, e, s)
  | .reg ops, e, s => match evOps self ops e s with
    | some (e, s) => some (.n, e, s)
    | none => none
  | .regD ops wins, e, s => match evD self ops wins e s with
    | some (e, s) => some (.n, e, s)
    | none => none
  | .seq a b, e, s => match evC self a e s with
    | some (.n, e, s) => evC self b e s
    | some (x, e, s) => some (x, e, s)
    | none => none
  | .cond c a b, e, s => match c.ev e with
    | .b true => evC self a e s
    | .b false => evC self b e s
    | _ => none
  | .blk id b, e, s => match evC self b e s with
    | some (.x j, e, s) => if j = id then some (.n, e, s) else some (.x j, e, s)
    | some (x, e, s) => some (x, e, s)
    | none => none
  | .loop b, e, s => match evC self b e s with
    | some (.n, e, s) => self.code (.loop b) e s
    | some (x, e, s) => some (x, e, s)
    | none => none
  | .exit id, e, s => some (.x id, e, s)
  | .ret, e, s => some (.r, e, s)
  | .rf f ps a b, e, s =>
    match f.ev e with
    | .fn g caps => match self.call g (.yld s.nb :: caps) (s.new (.loop 0 none e ps a b)) with
      | some (_, s') => endR s' s.nb e
      | none => none
    | _ => none
  | .thw t, e, s => match thawA s (e.get t) with
    | some (v, s) => some (.n, e.set 10 t v, s)
    | none => none
  | .bad, _, _ => none

def initT : Nat → List AV → Tr → Tr
  | _, [], t => t
  | n, v :: vs, t => initT (n + 1) vs (t.set 10 n v)

def pubA (s : St) : AV → Option (AV × St)
  | .agg l => match frzL s l with
    | some (l, s) => some (.agg l, s)
    | none => none
  | v => frz s v

def resOf (e : Tr) (s : St) : List (Nat × Option (Bool × Nat)) → Option (List AV × St)
  | [] => some ([], s)
  | (t, none) :: l => match pubA s (e.get t) with
    | some (v, s) => match resOf e s l with
      | some (r, s) => some (v :: r, s)
      | none => none
    | none => none
  | (t, some (agg, n)) :: l => match ldA s agg n (e.get t) with
    | some v => match pubA s v with
      | some (v, s) => match resOf e s l with
        | some (r, s) => some (v :: r, s)
        | none => none
      | none => none
    | none => none

def tupOf : List AV → AV
  | [v] => v
  | l => .tup l

mutual
def wk : CT → AV → AV
  | .id, v => v
  | .sl es c, .nsl => .ws false es []
  | .sl es c, .wz => .ws false es []
  | .sl es c, .sl e xs .full => if Nat.beq e es then .ws false es (wkM c xs) else .sl e xs .full
  | .sl es c, .sl e xs .shut => if Nat.beq e es then .ws false es (wkM c xs) else .sl e xs .shut
  | .sl es _, .ws _ e xs => .ws false e xs
  | .agg cs, .agg l => .agg (wkZ cs l)
  | _, v => v
def wkM : CT → List AV → List AV
  | _, [] => []
  | c, v :: l => wk c v :: wkM c l
def wkZ : List CT → List AV → List AV
  | c :: cs, v :: l => wk c v :: wkZ cs l
  | _, l => l
end

/-! What some code comes to whatever the state is. -/
def dead : Self := { call := fun _ _ _ => none, code := fun _ _ _ => none }
def noSt : St := { nb := 0, boxes := [], nt := 0, toks := [], lo := 0 }
def pureApp (es : Nat) : AV → AV → Option AV
  | .sl e [] .full, .wz => some (.sl e [] .full)
  | .sl e [] .full, .nsl => some (.sl e [] .full)
  | .sl e [] .full, .sl e' [] .full => if e' = es then some (.sl e [] .full) else none
  | .sl e [] .full, .sl e' [] .shut => if e' = es then some (.sl e [] .full) else none
  | _, _ => none
def pureOp (e : Tr) : AOp → Option AV
  | .app es _ x y => pureApp es (x.ev e) (y.ev e)
  | o => if Nat.beq o.cls 0 && quiet e noSt o then match evOp dead e noSt o with
      | some (v, _) => some v
      | none => none
    else none
def pureOps : List Op → Tr → Option Tr
  | [], e => some e
  | o :: l, e =>
    if wants e o.guard then match pureOp e o.op with
      | some v => pureOps l (put e o.dst v)
      | none => none
    else pureOps l (put e o.dst undef)
def pureC : C → Tr → Option (Bool × Tr)
  | .skip, e => some (false, e)
  | .ret, e => some (true, e)
  | .reg ops, e => match pureOps ops e with
    | some e => some (false, e)
    | none => none
  | .seq a b, e => match pureC a e with
    | some (false, e) => pureC b e
    | r => r
  | .cond c a b, e => match c.ev e with
    | .b true => pureC a e
    | .b false => pureC b e
    | _ => none
  | _, _ => none

/-- A slice of which it is not known whether it is nil: both are tried. -/
def both (fn : Fun) (args : List AV) : Option AV :=
  match fn.keep, fn.res, args with
  | true, [(t, none)], [.ws f es []] =>
    match pureC fn.body (initT 0 [.nsl] .e), pureC fn.body (initT 0 [.sl es [] (cond f .full .shut)] .e), pureC fn.body (initT 0 [.wz] .e) with
    | some (_, e1), some (_, e2), some (_, e3) => match e1.get t, e2.get t, e3.get t with
      | .nsl, .sl e [] .full, .sl e0 [] .full => if e = es ∧ e0 = es then some (.ws true es []) else none
      | _, _, _ => none
    | _, _, _ => none
  | _, _, _ => none

def callB (self : Self) (fn : Fun) (as : List AV) (s : St) : Option (AV × St) :=
  match evC self fn.body (initT 0 as .e) { s with lo := s.nb } with
  | some (.x _, _, _) => none
  | some (_, e, s1) =>
    match fn.keep, fn.res with
    | true, [(t, none)] => some (e.get t, { s1 with lo := min s.lo s1.lo })
    | true, _ => none
    | false, res => match resOf e s1 res with
      | some (vs, s1) => some (tupOf (wkZ fn.cout vs), leave s s1 (tupOf vs))
      | none => none
  | none => none

def callF (prog : Nat → Option Fun) (self : Self) (f : Nat) (args : List AV) (s : St) : Option (AV × St) :=
  match prog f with
  | none => none
  | some fn =>
    match fn.prim with
    | some p => ret1 s (p args)
    | none =>
    match Nat.ble args.length fn.ntmps with
    | false => none
    | true =>
    match both fn (wkZ fn.cin args) with
    | some v => some (v, { s with lo := min s.lo s.nb })
    | none => callB self fn (wkZ fn.cin args) s

def run (prog : Nat → Option Fun) : Nat → Self
  | 0 => { call := fun _ _ _ => none, code := fun _ _ _ => none }
  | n + 1 => { call := callF prog (run prog n), code := evC (run prog n) }

end Go.Proofs.YtfaodjpibdhdjaaDoor.Am
