/- The abstract evaluator: values, rows, operations and code, over which each Go function of this seat is described. Nothing in it speaks of one function. -/
import GoSem.Claims
set_option linter.all false
namespace Go.Esc
open Go

/-- One cell: a scalar, with the number of a row in place of a block's. -/
inductive Cell where
  | b (x : Bool)
  | i (k : IntKind) (n : Int)
  | s (x : List UInt8)
  | p (id off : Nat)
  | np
  | sl (id off len sz : Nat)
  | ns
  | f (fn : Nat) (caps : List (Nat × Nat))
  | nf
  | m (id : Nat)
  | nm
  | dark
  deriving DecidableEq, Inhabited

/-- A scalar or an aggregate. -/
inductive Part where
  | c (x : Cell)
  | a (l : List Cell)
  deriving Inhabited

/-- What a temporary holds; 'un': anything; 'no': an operation was not done. -/
inductive Val where
  | un
  | no
  | c (x : Cell)
  | a (l : List Cell)
  | t (l : List Part)
  deriving Inhabited

/-- A row of cells; 'rw': it may be written. -/
structure Row where
  cells : List Cell
  rw : Bool
  deriving Inhabited

abbrev Heap := List (Option Row)
abbrev Env := List (Nat × Val)

def Env.get : Env → Nat → Val
  | [], _ => .un
  | (d, v) :: r, t => bif Nat.beq d t then v else Env.get r t

def Env.keep (e : Env) : List Nat → Env
  | [] => []
  | t :: r => (t, e.get t) :: Env.keep e r

def Env.put (e : Env) (d : Option Nat) (v : Val) : Env :=
  match d with
  | some d => (d, v) :: e
  | none => e

/-- An operand. -/
inductive Opd where
  | t (n : Nat)
  | v (x : Val)
  deriving Inhabited

def Env.ev (e : Env) : Opd → Val
  | .t n => e.get n
  | .v x => x

/-- The shape of a leaf. -/
inductive Sh where
  | b
  | i (k : IntKind)
  | s
  deriving DecidableEq, Inhabited

def Cell.sh : Cell → Option Sh
  | .b _ => some .b
  | .i k _ => some (.i k)
  | .s _ => some .s
  | _ => none

inductive AOp where
  | mv (x : Opd)
  | nilrow (sz : Nat)
  | pick (c a b : Opd)
  | alloc (zero : List Cell)
  | box (x : Opd)
  | build (zero : List Cell) (parts : List (Nat × Nat × Opd))
  | buildSl (sz len : Nat) (zero : List Cell) (parts : List (Nat × Nat × Opd))
  | load1 (a : Opd)
  | loadN (n : Nat) (a : Opd)
  | store1 (a x : Opd)
  | storeN (n : Nat) (a x : Opd)
  | bin (op : BinOp) (x y : Opd)
  | eqA (neg : Bool) (sh : List Sh) (x y : Opd)
  | eqB (neg : Bool) (x y : Opd)
  | eqN (fn neg : Bool) (x : Opd)
  | nilc (x : Opd)
  | un (op : UnOp) (x : Opd)
  | conv (k : IntKind) (x : Opd)
  | convS (x : Opd)
  | s2b (x : Opd)
  | b2s (x : Opd)
  | b2sN (own : Option Nat) (x : Opd)
  | mark (x : Opd)
  | mkf (fn : Nat) (caps : List Opd)
  | mkSl (sz : Nat) (zero : List Cell) (len cap : Opd)
  | slS (x : Opd) (lo hi : Option Opd)
  | slL (sz : Nat) (x : Opd) (lo hi : Option Opd)
  | slA (n sz : Nat) (x : Opd) (lo hi : Option Opd)
  | fAddr (x : Opd) (off : Nat)
  | iAddrA (n sz : Nat) (x i : Opd)
  | iAddrL (sz : Nat) (x i : Opd)
  | fld1 (x : Opd) (off : Nat)
  | fldN (x : Opd) (off n : Nat)
  | idxA1 (n : Nat) (x i : Opd)
  | idxAN (n sz : Nat) (x i : Opd)
  | idxS (x i : Opd)
  | ext (x : Opd) (k : Nat)
  | call (f : Nat) (args : List Opd)
  | callV (f : Opd) (args : List Opd)
  | len (x : Opd)
  | lenS (x : Opd)
  | app (sz : Nat) (x y : Opd)
  | appZ (sz : Nat) (zero : List Cell) (x y : Opd)
  | max (x y : Opd)
  | min (x y : Opd)
  | copy (sz : Nat) (x y : Opd)
  deriving Inhabited

structure AOper where
  dst : Option Nat
  op : AOp
  guard : Option (Nat × Bool) := none
  slot : Option Nat := none
  deriving Inhabited

/-- Code; 'seq' and 'loop' name the temporaries that are read behind, or at the next round. -/
inductive ACode where
  | skip
  | ops (l : List AOper)
  | draw (n : Nat) (l : List AOper) (r : List AOper)
  | drawS (n : Nat) (l : List AOper) (s : AOper) (chk : List (Nat × AOp)) (r : List AOper)
  | seq (keep : List Nat) (a b : ACode)
  | cond (c : Opd) (a b : ACode)
  | block (id : Nat) (a : ACode)
  | loop (keep : List Nat) (a : ACode)
  | exit (id : Nat)
  | ret
  deriving Inhabited

/-! ### What operations compute -/

def cells? : Val → Option (List Cell)
  | .c x => some [x]
  | .a l => some l
  | _ => none

def ibin (op : BinOp) (k : IntKind) (a b : Int) : Option Cell :=
  match op with
  | .add => some (.i k (k.wrap (a + b)))
  | .sub => some (.i k (k.wrap (a - b)))
  | .mul => some (.i k (k.wrap (a * b)))
  | .quo => if b = 0 then none else some (.i k (k.wrap (a.tdiv b)))
  | .rem => if b = 0 then none else some (.i k (a.tmod b))
  | .and => some (.i k (k.wrap (BitVec.ofInt k.bits a &&& BitVec.ofInt k.bits b).toNat))
  | .or => some (.i k (k.wrap (BitVec.ofInt k.bits a ||| BitVec.ofInt k.bits b).toNat))
  | .xor => some (.i k (k.wrap (BitVec.ofInt k.bits a ^^^ BitVec.ofInt k.bits b).toNat))
  | .andNot => some (.i k (k.wrap (BitVec.ofInt k.bits a &&& ~~~ BitVec.ofInt k.bits b).toNat))
  | .eql => some (.b (a == b))
  | .neq => some (.b (a != b))
  | .lss => some (.b (decide (a < b)))
  | .leq => some (.b (decide (a ≤ b)))
  | .gtr => some (.b (decide (a > b)))
  | .geq => some (.b (decide (a ≥ b)))
  | _ => none

def ishl (k : IntKind) (a b : Int) : Option Cell := if b < 0 then none else some (.i k (k.wrap (a * 2 ^ (Nat.min b.toNat k.bits))))
def ishr (k : IntKind) (a b : Int) : Option Cell := if b < 0 then none else some (.i k (a.fdiv (2 ^ (Nat.min b.toNat k.bits))))

/-- Is x less than y, byte by byte? -/
def bless : List UInt8 → List UInt8 → Bool
  | _, [] => false
  | [], _ :: _ => true
  | a :: x, b :: y => decide (a < b) || (a == b && bless x y)

def sbin (op : BinOp) (a b : List UInt8) : Option Cell :=
  match op with
  | .add => if a.length + b.length ≤ 1073741824 then some (.s (a ++ b)) else none
  | .eql => some (.b (a == b))
  | .neq => some (.b (!(a == b)))
  | .lss => some (.b (bless a b))
  | .leq => some (.b (bless a b || a == b))
  | .gtr => some (.b (!(bless a b || a == b)))
  | .geq => some (.b (!bless a b))
  | _ => none

def abin (op : BinOp) (x y : Val) : Option Val :=
  match x, y with
  | .c (.i k a), .c (.i k' b) =>
    match op with
    | .shl => (ishl k a b).map .c
    | .shr => (ishr k a b).map .c
    | op => bif decide (k = k') then (ibin op k a b).map .c else none
  | .c (.s a), .c (.s b) => (sbin op a b).map .c
  | _, _ => none

def aeqB (neg : Bool) (x y : Val) : Option Val :=
  match x, y with
  | .c (.b a), .c (.b b) => some (.c (.b (bif neg then !(a == b) else a == b)))
  | _, _ => none

/-- Is it nil? (A function, or a pointer.) -/
def aeqN (fn neg : Bool) (x : Val) : Option Val :=
  match fn, x with
  | true, .c .nf => some (.c (.b (!neg)))
  | true, .c (.f _ _) => some (.c (.b neg))
  | false, .c .np => some (.c (.b (!neg)))
  | false, .c (.p _ _) => some (.c (.b neg))
  | _, _ => none

/-- It must not be nil. -/
def anilc (x : Val) : Option Val :=
  match x with
  | .c (.p id off) => some (.c (.p id off))
  | .c (.f g cs) => some (.c (.f g cs))
  | _ => none

def aeq (neg : Bool) (sh : List Sh) (x y : Val) : Option Val :=
  match x, y with
  | .a l, .a l' => if l.map Cell.sh = sh.map some ∧ l'.map Cell.sh = sh.map some then some (.c (.b (bif neg then !(decide (l = l')) else decide (l = l')))) else none
  | _, _ => none

def aun (op : UnOp) (x : Val) : Option Val :=
  match op, x with
  | .not, .c (.b b) => some (.c (.b (!b)))
  | .neg, .c (.i k n) => some (.c (.i k (k.wrap (0 - n))))
  | .xor, .c (.i k n) => some (.c (.i k (k.wrap (BitVec.ofInt k.bits (if k.signed then -1 else k.max) ^^^ BitVec.ofInt k.bits n).toNat)))
  | _, _ => none

def apick (c a b : Val) : Option Val :=
  match c with
  | .c (.b x) => some (bif x then a else b)
  | _ => none

def rd (h : Heap) (id : Nat) : Option Row := (h[id]?).join

/-- Is it a cell of which nothing is told? (Only rows that are never written have such.) -/
def Cell.isX : Cell → Bool
  | .dark => true
  | _ => false

def noX (l : List Cell) : Bool := l.all fun c => !c.isX

def aload1 (h : Heap) : Val → Option Val
  | .c (.p id off) => (rd h id).bind fun r => (r.cells[off]?).bind fun c => bif r.rw || !c.isX then some (.c c) else none
  | _ => none

def aloadN (h : Heap) (n : Nat) : Val → Option Val
  | .c (.p id off) => (rd h id).bind fun r => if off + n ≤ r.cells.length ∧ (r.rw || noX ((r.cells.drop off).take n)) = true then some (.a ((r.cells.drop off).take n)) else none
  | _ => none

def lay (cs : List Cell) (off : Nat) (xs : List Cell) : List Cell := cs.take off ++ (xs ++ cs.drop (off + xs.length))

def astore1 (h : Heap) (a x : Val) : Option Heap :=
  match a, x with
  | .c (.p id off), .c x => (rd h id).bind fun r => if r.rw = true ∧ off < r.cells.length then some (h.set id (some ⟨r.cells.set off x, true⟩)) else none
  | _, _ => none

def astoreN (h : Heap) (n : Nat) (a x : Val) : Option Heap :=
  match a, x with
  | .c (.p id off), .a xs => (rd h id).bind fun r => if r.rw = true ∧ xs.length = n ∧ off + n ≤ r.cells.length then some (h.set id (some ⟨lay r.cells off xs, true⟩)) else none
  | _, _ => none

/-- A new row: behind all others, or in a place that was kept for it. -/
def anew (h : Heap) (n0 : Nat) (slot : Option Nat) (r : Row) : Nat × Heap :=
  match slot with
  | none => (h.length, h ++ [some r])
  | some j => (n0 + j, h.set (n0 + j) (some r))

/-- The parts of an aggregate laid over its zero cells. -/
def afill (zero : List Cell) : List (Nat × Nat × Val) → Option (List Cell)
  | [] => some zero
  | (off, n, v) :: r =>
    match cells? v with
    | some xs => if xs.length = n ∧ off + n ≤ zero.length then afill (lay zero off xs) r else none
    | none => none

def aconv (k : IntKind) : Val → Option Val
  | .c (.i _ n) => some (.c (.i k (k.wrap n)))
  | _ => none

/-- The cells of a slice. -/
def slcells (h : Heap) : Val → Option (List Cell)
  | .c .ns => some []
  | .c (.sl id off len sz) => (rd h id).bind fun r => if off + len * sz ≤ r.cells.length ∧ (r.rw || noX ((r.cells.drop off).take (len * sz))) = true then some ((r.cells.drop off).take (len * sz)) else none
  | _ => none

def byte? : Cell → Option UInt8
  | .i .u8 n => if 0 ≤ n ∧ n < 256 then some (UInt8.ofNat n.toNat) else none
  | _ => none

def bytes? : List Cell → Option (List UInt8)
  | [] => some []
  | c :: r => (byte? c).bind fun x => (bytes? r).map fun l => x :: l

def aconvS (x : Val) : Option Val :=
  match x with
  | .c (.s s) => some (.c (.s s))
  | _ => none

def ab2s (h : Heap) (x : Val) : Option Val :=
  match x with
  | .c (.sl id off len sz) => if sz = 1 then ((slcells h (.c (.sl id off len sz))).bind bytes?).map fun s => .c (.s s) else none
  | .c .ns => some (.c (.s []))
  | _ => none

/-- The same, of a row that is made meanwhile: in its place, or by a call. -/
def ab2sN (h : Heap) (n0 : Nat) (own : Option Nat) (x : Val) : Option Val :=
  match own with
  | none => ab2s h x
  | some j =>
    match x with
    | .c (.sl id off len sz) => if id = n0 + j then ab2s h (.c (.sl id off len sz)) else none
    | _ => none

def encB (l : List UInt8) : List Cell := l.map fun x => .i .u8 x.toNat

def bound (x : Option Val) (d : Nat) : Option Nat :=
  match x with
  | none => some d
  | some (.c (.i _ n)) => if 0 ≤ n then some n.toNat else none
  | _ => none

def aslS (x : Val) (lo hi : Option Val) : Option Val :=
  match x with
  | .c (.s s) => (bound lo 0).bind fun l => (bound hi s.length).bind fun h => if l ≤ h ∧ h ≤ s.length then some (.c (.s ((s.take h).drop l))) else none
  | _ => none

def aslL (sz : Nat) (x : Val) (lo hi : Option Val) : Option Val :=
  match x with
  | .c (.sl id off len sz') => (bound lo 0).bind fun l => (bound hi len).bind fun h => if l ≤ h ∧ h ≤ len ∧ sz = sz' then some (.c (.sl id (off + l * sz) (h - l) sz)) else none
  | .c .ns => (bound lo 0).bind fun l => (bound hi 0).bind fun h => if l = 0 ∧ h = 0 then some (.c .ns) else none
  | _ => none

def aslA (hp : Heap) (n sz : Nat) (x : Val) (lo hi : Option Val) : Option Val :=
  match x with
  | .c (.p id off) => (rd hp id).bind fun r => (bound lo 0).bind fun l => (bound hi n).bind fun h =>
      if l ≤ h ∧ h ≤ n ∧ off + n * sz ≤ r.cells.length then some (.c (.sl id (off + l * sz) (h - l) sz)) else none
  | _ => none

def afAddr (x : Val) (off : Nat) : Option Val :=
  match x with
  | .c (.p id o) => some (.c (.p id (o + off)))
  | _ => none

def aiAddrA (n sz : Nat) (x i : Val) : Option Val :=
  match x, i with
  | .c (.p id o), .c (.i _ j) => if 0 ≤ j ∧ j < n then some (.c (.p id (o + j.toNat * sz))) else none
  | _, _ => none

def aiAddrL (sz : Nat) (x i : Val) : Option Val :=
  match x, i with
  | .c (.sl id o len sz'), .c (.i _ j) => if 0 ≤ j ∧ j < len ∧ sz = sz' then some (.c (.p id (o + j.toNat * sz))) else none
  | _, _ => none

def afld1 (x : Val) (off : Nat) : Option Val :=
  match x with
  | .a l => (l[off]?).map .c
  | _ => none

def afldN (x : Val) (off n : Nat) : Option Val :=
  match x with
  | .a l => if off + n ≤ l.length then some (.a ((l.drop off).take n)) else none
  | _ => none

def aidxA1 (n : Nat) (x i : Val) : Option Val :=
  match x, i with
  | .a l, .c (.i _ j) => if 0 ≤ j ∧ j < n then (l[j.toNat]?).map .c else none
  | _, _ => none

def aidxAN (n sz : Nat) (x i : Val) : Option Val :=
  match x, i with
  | .a l, .c (.i _ j) => if 0 ≤ j ∧ j < n ∧ j.toNat * sz + sz ≤ l.length then some (.a ((l.drop (j.toNat * sz)).take sz)) else none
  | _, _ => none

def aidxS (x i : Val) : Option Val :=
  match x, i with
  | .c (.s s), .c (.i _ j) => if 0 ≤ j then (s[j.toNat]?).map fun b => .c (.i .u8 b.toNat) else none
  | _, _ => none

def ofPart : Part → Val
  | .c x => .c x
  | .a l => .a l

def aext (x : Val) (k : Nat) : Option Val :=
  match x with
  | .t l => (l[k]?).map ofPart
  | _ => none

def alenS (x : Val) : Option Val :=
  match x with
  | .c (.s s) => some (.c (.i .i64 s.length))
  | _ => none

def alen (x : Val) : Option Val :=
  match x with
  | .c (.sl _ _ len _) => some (.c (.i .i64 len))
  | .c .ns => some (.c (.i .i64 0))
  | _ => none

/-- What an append adds: the cells of a slice, or of a string. -/
def addcells (h : Heap) (sz : Nat) : Val → Option (List Cell)
  | .c (.s s) => if sz = 1 then some (encB s) else none
  | .c (.sl id off len sz') => if sz = sz' then slcells h (.c (.sl id off len sz')) else none
  | .c .ns => some []
  | _ => none

/-- Append: the old row is gone, a new one has all; never more than 2^30 elements. -/
def aapp (h : Heap) (sz : Nat) (x y : Val) : Option (Val × Heap) :=
  (addcells h sz y).bind fun ys =>
    match x with
    | .c .ns => if ys.length / sz ≤ 1073741824 then some (.c (.sl h.length 0 (ys.length / sz) sz), h ++ [some ⟨ys, true⟩]) else none
    | .c (.sl id off len sz') => (rd h id).bind fun r =>
        if r.rw = true ∧ off = 0 ∧ len * sz = r.cells.length ∧ sz = sz' ∧ len + ys.length / sz ≤ 1073741824 then
          some (.c (.sl h.length 0 (len + ys.length / sz) sz), h.set id none ++ [some ⟨r.cells ++ ys, true⟩]) else none
    | _ => none

/-- A mark on bytes: they must be there. -/
def amark (h : Heap) (x : Val) : Option Val :=
  match x with
  | .c (.sl id _ len _) => (rd h id).bind fun r => if r.rw = true ∧ 0 < len then some x else none
  | _ => none

def amax (x y : Val) : Option Val :=
  match x, y with
  | .c (.i k a), .c (.i _ b) => some (.c (.i k (if b > a then b else a)))
  | _, _ => none

def amin (x y : Val) : Option Val :=
  match x, y with
  | .c (.i k a), .c (.i _ b) => some (.c (.i k (if b < a then b else a)))
  | _, _ => none

/-- Copy within rows: the number of elements, and the row written. -/
def acopy (h : Heap) (sz : Nat) (x y : Val) : Option (Val × Heap) :=
  match y with
  | .c (.s _) => none
  | _ => (addcells h sz y).bind fun ys =>
    match x with
    | .c (.sl id off len sz') => (rd h id).bind fun r =>
        if r.rw = true ∧ off + len * sz ≤ r.cells.length ∧ sz = sz' then
          some (.c (.i .i64 (Nat.min (ys.length / sz) len : Nat)), h.set id (some ⟨lay r.cells off (ys.take (Nat.min (ys.length / sz) len * sz)), true⟩)) else none
    | _ => none

def capsOf : List Val → Option (List (Nat × Nat))
  | [] => some []
  | .c (.p id off) :: r => (capsOf r).map fun l => (id, off) :: l
  | _ => none

def amkf (fn : Nat) (caps : List Val) : Option Val := (capsOf caps).map fun l => .c (.f fn l)

def nat? : Val → Option Nat
  | .c (.i .i64 n) => if 0 ≤ n ∧ n ≤ 1073741824 then some n.toNat else none
  | _ => none

def rows (zero : List Cell) (n : Nat) : List Cell := (List.replicate n zero).flatten

def capVals (l : List (Nat × Nat)) : List Val := l.map fun q => .c (.p q.1 q.2)

/-- What the functions that are called answer. -/
abbrev Sums := Nat → List Val → Heap → Option (Val × Heap)

open Classical in
/-- A call that leaves all rows as they were. -/
noncomputable def quiet (h : Heap) (r : Option (Val × Heap)) : Option (Val × Heap) :=
  r.bind fun p => if h <+: p.2 ∧ (∀ id x, h.length ≤ id → rd p.2 id = some x → x.rw = true) then some p else none

/-- A call of a function value. -/
def callv (E : Sums) (f : Val) (args : List Val) (h : Heap) : Option (Val × Heap) :=
  match f with
  | .c (.f g caps) => E g (args ++ capVals caps) h
  | _ => none

def as2b (x : Val) : Option (List UInt8) :=
  match x with
  | .c (.s s) => if s.length ≤ 1073741824 then some s else none
  | _ => none

def amkn (x y : Val) : Option Nat := (nat? x).bind fun n => (nat? y).bind fun c => if n ≤ c then some n else none

/-- Append of a number of zeros. -/
def aappZ (h : Heap) (sz : Nat) (zero : List Cell) (x y : Val) : Option (Val × Heap) :=
  (nat? y).bind fun n =>
    match x with
    | .c .ns => some (.c (.sl h.length 0 n sz), h ++ [some ⟨rows zero n, true⟩])
    | .c (.sl id off len sz') => (rd h id).bind fun r =>
        if r.rw = true ∧ off = 0 ∧ len * sz = r.cells.length ∧ sz = sz' ∧ len + n ≤ 1073741824 then
          some (.c (.sl h.length 0 (len + n) sz), h.set id none ++ [some ⟨r.cells ++ rows zero n, true⟩]) else none
    | _ => none

variable {R : Type}

/-- A condition's two ways. -/
def cnd (v : Val) (a b : Option R) : Option R :=
  match v with
  | .c (.b x) => bif x then a else b
  | _ => none

/-- One operation: hr is the heap that it reads, h the one that it turns. -/
noncomputable def aop (E : Sums) (q : Bool) (hr : Heap) (n0 : Nat) (slot : Option Nat) (o : AOp) (e : Env) (h : Heap) (k : Val → Heap → Option R) : Option R :=
  match o with
  | .mv x => k (e.ev x) h
  | .nilrow sz => let p := anew h n0 slot ⟨[], true⟩; k (.c (.sl p.1 0 0 sz)) p.2
  | .pick c a b => (apick (e.ev c) (e.ev a) (e.ev b)).bind fun v => k v h
  | .alloc zero => let p := anew h n0 slot ⟨zero, true⟩; k (.c (.p p.1 0)) p.2
  | .box x => (cells? (e.ev x)).bind fun cs => let p := anew h n0 slot ⟨cs, true⟩; k (.c (.p p.1 0)) p.2
  | .build zero parts => (afill zero (parts.map fun p => (p.1, p.2.1, e.ev p.2.2))).bind fun cs => k (.a cs) h
  | .buildSl sz len zero parts => (afill zero (parts.map fun p => (p.1, p.2.1, e.ev p.2.2))).bind fun cs => let p := anew h n0 slot ⟨cs, true⟩; k (.c (.sl p.1 0 len sz)) p.2
  | .load1 a => (aload1 hr (e.ev a)).bind fun v => k v h
  | .loadN n a => (aloadN hr n (e.ev a)).bind fun v => k v h
  | .store1 a x => (astore1 h (e.ev a) (e.ev x)).bind fun h => k .un h
  | .storeN n a x => (astoreN h n (e.ev a) (e.ev x)).bind fun h => k .un h
  | .bin op x y => (abin op (e.ev x) (e.ev y)).bind fun v => k v h
  | .eqA neg sh x y => (aeq neg sh (e.ev x) (e.ev y)).bind fun v => k v h
  | .eqB neg x y => (aeqB neg (e.ev x) (e.ev y)).bind fun v => k v h
  | .eqN fn neg x => (aeqN fn neg (e.ev x)).bind fun v => k v h
  | .nilc x => (anilc (e.ev x)).bind fun v => k v h
  | .un op x => (aun op (e.ev x)).bind fun v => k v h
  | .conv kd x => (aconv kd (e.ev x)).bind fun v => k v h
  | .convS x => (aconvS (e.ev x)).bind fun v => k v h
  | .s2b x => (as2b (e.ev x)).bind fun s => let p := anew h n0 slot ⟨encB s, true⟩; k (.c (.sl p.1 0 s.length 1)) p.2
  | .b2s x => (ab2s hr (e.ev x)).bind fun v => k v h
  | .b2sN own x => (ab2sN h n0 own (e.ev x)).bind fun v => k v h
  | .mark x => (amark h (e.ev x)).bind fun v => k v h
  | .mkf fn caps => (amkf fn (caps.map e.ev)).bind fun v => k v h
  | .mkSl sz zero len cap => (amkn (e.ev len) (e.ev cap)).bind fun n => let p := anew h n0 slot ⟨rows zero n, true⟩; k (.c (.sl p.1 0 n sz)) p.2
  | .slS x lo hi => (aslS (e.ev x) (lo.map e.ev) (hi.map e.ev)).bind fun v => k v h
  | .slL sz x lo hi => (aslL sz (e.ev x) (lo.map e.ev) (hi.map e.ev)).bind fun v => k v h
  | .slA n sz x lo hi => (aslA hr n sz (e.ev x) (lo.map e.ev) (hi.map e.ev)).bind fun v => k v h
  | .fAddr x off => (afAddr (e.ev x) off).bind fun v => k v h
  | .iAddrA n sz x i => (aiAddrA n sz (e.ev x) (e.ev i)).bind fun v => k v h
  | .iAddrL sz x i => (aiAddrL sz (e.ev x) (e.ev i)).bind fun v => k v h
  | .fld1 x off => (afld1 (e.ev x) off).bind fun v => k v h
  | .fldN x off n => (afldN (e.ev x) off n).bind fun v => k v h
  | .idxA1 n x i => (aidxA1 n (e.ev x) (e.ev i)).bind fun v => k v h
  | .idxAN n sz x i => (aidxAN n sz (e.ev x) (e.ev i)).bind fun v => k v h
  | .idxS x i => (aidxS (e.ev x) (e.ev i)).bind fun v => k v h
  | .ext x j => (aext (e.ev x) j).bind fun v => k v h
  | .call f args => (bif q then quiet h (E f (args.map e.ev) h) else E f (args.map e.ev) h).bind fun p => k p.1 p.2
  | .callV f args => (bif q then quiet h (callv E (e.ev f) (args.map e.ev) h) else callv E (e.ev f) (args.map e.ev) h).bind fun p => k p.1 p.2
  | .len x => (alen (e.ev x)).bind fun v => k v h
  | .lenS x => (alenS (e.ev x)).bind fun v => k v h
  | .app sz x y => (aapp h sz (e.ev x) (e.ev y)).bind fun p => k p.1 p.2
  | .appZ sz zero x y => (aappZ h sz zero (e.ev x) (e.ev y)).bind fun p => k p.1 p.2
  | .max x y => (amax (e.ev x) (e.ev y)).bind fun v => k v h
  | .min x y => (amin (e.ev x) (e.ev y)).bind fun v => k v h
  | .copy sz x y => (acopy h sz (e.ev x) (e.ev y)).bind fun p => k p.1 p.2

/-- A guarded operation's two ways. -/
def gd (v : Val) (want : Bool) (a b : Option (Val × Heap)) : Option (Val × Heap) :=
  match v with
  | .c (.b x) => bif x == want then a else b
  | .no => b
  | _ => none

noncomputable def aoper (E : Sums) (q : Bool) (hr : Heap) (n0 : Nat) (o : AOper) (e : Env) (h : Heap) (k : Val → Heap → Option R) : Option R :=
  match o.guard with
  | none => aop E q hr n0 o.slot o.op e h k
  | some g => (gd (e.get g.1) g.2 (aop E q hr n0 o.slot o.op e h fun v h => some (v, h)) (some (.no, h))).bind fun p => k p.1 p.2

/-- Operations one behind another. -/
noncomputable def aops (E : Sums) (l : List AOper) : Env → Heap → (Env → Heap → Option R) → Option R :=
  List.rec (motive := fun _ => Env → Heap → (Env → Heap → Option R) → Option R) (fun e h k => k e h) (fun o _ ih e h k => aoper E false h 0 o e h fun v h => ih (e.put o.dst v) h k) l

theorem aops_nil (E : Sums) (e : Env) (h : Heap) (k : Env → Heap → Option R) : aops E [] e h k = k e h := rfl
theorem aops_cons (E : Sums) (o : AOper) (r : List AOper) (e : Env) (h : Heap) (k : Env → Heap → Option R) : aops E (o :: r) e h k = aoper E false h 0 o e h fun v h => aops E r (e.put o.dst v) h k := rfl

/-- Operations whose order is open: all that is read is read as it was at the begin. -/
noncomputable def adraw (E : Sums) (hr : Heap) (n0 : Nat) (l : List AOper) : Env → Heap → (Env → Heap → Option R) → Option R :=
  List.rec (motive := fun _ => Env → Heap → (Env → Heap → Option R) → Option R) (fun e h k => k e h) (fun o _ ih e h k => aoper E true hr n0 o e h fun v h => ih (e.put o.dst v) h k) l

theorem adraw_nil (E : Sums) (hr : Heap) (n0 : Nat) (e : Env) (h : Heap) (k : Env → Heap → Option R) : adraw E hr n0 [] e h k = k e h := rfl
theorem adraw_cons (E : Sums) (hr : Heap) (n0 : Nat) (o : AOper) (r : List AOper) (e : Env) (h : Heap) (k : Env → Heap → Option R) : adraw E hr n0 (o :: r) e h k = aoper E true hr n0 o e h fun v h => adraw E hr n0 r (e.put o.dst v) h k := rfl

/-- What is loaded is what was loaded. -/
def reload (h : Heap) (o : AOp) (e : Env) : Option Val :=
  match o with
  | .load1 a => aload1 h (e.ev a)
  | .loadN n a => aloadN h n (e.ev a)
  | _ => none

open Classical in
noncomputable def agn (x : Option Val) (v : Val) (k : Option R) : Option R := if x = some v then k else none

noncomputable def again (l : List (Nat × AOp)) (e : Env) (h : Heap) (k : Option R) : Option R :=
  List.rec (motive := fun _ => Option R) k (fun c _ ih => agn (reload h c.2 e) (e.get c.1) ih) l

theorem again_nil (e : Env) (h : Heap) (k : Option R) : again [] e h k = k := rfl
theorem again_cons (c : Nat × AOp) (l : List (Nat × AOp)) (e : Env) (h : Heap) (k : Option R) : again (c :: l) e h k = agn (reload h c.2 e) (e.get c.1) (again l e h k) := rfl

inductive AExit where
  | normal
  | exit (id : Nat)
  | ret

abbrev Kont (R : Type) := AExit → Env → Heap → Option R
abbrev Sm (R : Type) := Kont R → Env → Heap → Option R

/-- The rounds of a loop. -/
noncomputable def around (c : Sm R) (keep : List Nat) (k : Kont R) (n : Nat) : Env → Heap → Option R :=
  Nat.rec (motive := fun _ => Env → Heap → Option R) (fun _ _ => none) (fun _ ih e h => c (fun x e h => match x with | .normal => ih (e.keep keep) h | .exit id => k (.exit id) e h | .ret => k .ret e h) e h) n

theorem around_zero (c : Sm R) (keep : List Nat) (k : Kont R) (e : Env) (h : Heap) : around c keep k 0 e h = none := rfl
theorem around_succ (c : Sm R) (keep : List Nat) (k : Kont R) (n : Nat) (e : Env) (h : Heap) : around c keep k (n + 1) e h = c (fun x e h => match x with | .normal => around c keep k n (e.keep keep) h | .exit id => k (.exit id) e h | .ret => k .ret e h) e h := rfl

/-- A name that holds computation back (what it mentions makes the kernel unfold it behind 'aops' and ahead of all that an operation uses). -/
def hold {α : Type} (x : α) : α := (fun _ => x) gd

/-! ### What each kind of code does (each mentions what makes the kernel unfold it ahead of 'hold') -/

noncomputable def smSkip : Sm R := fun k e h => (fun _ => k .normal e h) (@aops Nat)
noncomputable def smOps (E : Sums) (l : List AOper) : Sm R := fun k e h => aops E l e h fun e h => k .normal e h
noncomputable def smDraw (E : Sums) (m : Nat) (l r : List AOper) : Sm R := fun k e h => adraw E h h.length l e (h ++ List.replicate m none) fun e h => aops E r e h fun e h => k .normal e h
noncomputable def smDrawS (E : Sums) (m : Nat) (l : List AOper) (s : AOper) (chk : List (Nat × AOp)) (r : List AOper) : Sm R := fun k e h => adraw E h h.length l e (h ++ List.replicate m none) fun e h => aoper E false h 0 s e h fun v h2 => again chk e h2 (aops E r (e.put s.dst v) h2 fun e h => k .normal e h)
noncomputable def smSeq (keep : List Nat) (a b : Sm R) : Sm R := fun k e h => a (fun x e h => match x with | .normal => hold (b k (e.keep keep) h) | .exit id => k (.exit id) e h | .ret => k .ret e h) e h
noncomputable def smCond (c : Opd) (a b : Sm R) : Sm R := fun k e h => (fun _ => cnd (e.ev c) (a k e h) (b k e h)) (@aops Nat)
noncomputable def smBlock (id : Nat) (a : Sm R) : Sm R := fun k e h => (fun _ => a (fun x e h => match x with | .exit i => bif Nat.beq i id then k .normal e h else k (.exit i) e h | .normal => k .normal e h | .ret => k .ret e h) e h) (@aops Nat)
noncomputable def smLoop (n : Nat) (keep : List Nat) (a : Sm R) : Sm R := fun k e h => (fun _ => around a keep k n (e.keep keep) h) (@aops Nat)
noncomputable def smExit (id : Nat) : Sm R := fun k e h => (fun _ => k (.exit id) e h) (@aops Nat)
noncomputable def smRet : Sm R := fun k e h => (fun _ => k .ret e h) (@aops Nat)

noncomputable def aex (E : Sums) (n : Nat) : ACode → Sm R
  | .skip => smSkip
  | .ops l => smOps E l
  | .draw m l r => smDraw E m l r
  | .drawS m l s chk r => smDrawS E m l s chk r
  | .seq keep a b => smSeq keep (aex E n a) (aex E n b)
  | .cond c a b => smCond c (aex E n a) (aex E n b)
  | .block id a => smBlock id (aex E n a)
  | .loop keep a => smLoop n keep (aex E n a)
  | .exit id => smExit id
  | .ret => smRet

/-- Where a result stands: in a temporary, or in a variable's cells. -/
inductive ARes where
  | tmp (t : Nat)
  | cell1 (t : Nat)
  | cellN (t n : Nat)

def ares (e : Env) (h : Heap) : ARes → Option Val
  | .tmp t => some (e.get t)
  | .cell1 t => aload1 h (e.get t)
  | .cellN t n => aloadN h n (e.get t)

def part? : Val → Option Part
  | .c x => some (.c x)
  | .a l => some (.a l)
  | _ => none

def aress (e : Env) (h : Heap) : List ARes → Option (List Part)
  | [] => some []
  | r :: l => (ares e h r).bind fun v => (part? v).bind fun p => (aress e h l).map fun q => p :: q

def aresult (rs : List ARes) (e : Env) (h : Heap) : Option (Val × Heap) :=
  match rs with
  | [r] => (ares e h r).map fun v => (v, h)
  | rs => (aress e h rs).map fun l => (.t l, h)

def tupgo : List (Option Val) → Option (List Part)
  | [] => some []
  | r :: l => r.bind fun v => (part? v).bind fun p => (tupgo l).map fun q => p :: q

/-- Several results. -/
def tupN (l : List (Option Val)) (h : Heap) : Option (Val × Heap) := (tupgo l).map fun l => (.t l, h)

/-- A function: its code and where its results stand. -/
structure AFn where
  code : ACode
  res : List ARes

def params : Nat → List Val → Env
  | _, [] => []
  | i, v :: r => (i, v) :: params (i + 1) r

def AFn.fin (f : AFn) : AExit → Env → Heap → Option (Val × Heap)
  | .normal, e, h => aresult f.res e h
  | .ret, e, h => aresult f.res e h
  | .exit _, _, _ => none

noncomputable def AFn.run (f : AFn) (E : Sums) (n : Nat) (args : List Val) (h : Heap) : Option (Val × Heap) :=
  aex E n f.code f.fin (params 0 args) h

end Go.Esc
