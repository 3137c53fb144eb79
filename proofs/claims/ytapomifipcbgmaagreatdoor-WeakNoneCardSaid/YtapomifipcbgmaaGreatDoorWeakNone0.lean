/- A part of the proof: WeakNone returns true for every input: all functions return ErrArg for a heap or roots that are nil or zero; those of tables ErrNone where there is no object (R1) Conditions: none. -/
import Derived.Calls
import Derived.Orders
import Derived.Below
import Derived.Laws.AppendOwn
import Derived.MapKept
import Derived.Laws.StructEq
import Derived.Laws.Cover3
import Derived.Laws.Pointers
import Derived.Laws.MakeOwn
import Derived.ChangeKeysEq
import Derived.RangeFuncIn
import Derived.RangeFuncLeaves
import Derived.RangeFuncRecord
import Derived.OrdersIn
set_option linter.unusedVariables false
set_option linter.unusedSimpArgs false
set_option linter.defProp false
/- The clean machine: a deterministic machine over compiled operations (sizes and offsets resolved), without tape, draws or spare capacity. Definitions, and the fuel-free denotation with its equations. -/
namespace Go.Cs
open Go

inductive CV where
  | int (k : IntKind) (n : Int)
  | bool (b : Bool)
  | ptr (b o : Nat)
  | nilPtr
  | slice (b o len cap esz : Nat) (tail : Bool)
  | nilSlice
  | func (f : Nat) (caps : List CV)
  | nilFunc
  | mapv (b : Nat)
  | nilMap
  | iface (t : Nat) (x : CV)
  | nilIface
  | meth (name : String) (x : CV)
  | yld (b : Nat)
  | agg (cs : List CV)
  | tup (vs : List CV)
  deriving Inhabited

abbrev CV.undef : CV := .tup []
abbrev CV.i (n : Int) : CV := .int .i64 n

inductive Mode where
  | rw | ro | dead | map
  deriving DecidableEq, Inhabited

structure Blk where
  cells : List CV
  mode : Mode
  esz : Nat
  deriving Inhabited

abbrev CHeap := List Blk

/-- What a value is as cells. -/
def cellsOf : CV → List CV
  | .agg cs => cs
  | v => [v]

def leaf : CV → Bool
  | .agg _ | .tup _ => false
  | _ => true

def splice (l : List CV) (o : Nat) (vs : List CV) : List CV := l.take o ++ vs ++ l.drop (o + vs.length)

def load1 (H : CHeap) (b o : Nat) : Option CV :=
  match H[b]? with
  | some blk => if blk.mode = .dead ∨ blk.mode = .map then none else blk.cells[o]?
  | none => none

def loadN (H : CHeap) (b o n : Nat) : Option (List CV) :=
  match H[b]? with
  | some blk => if blk.mode = .dead ∨ blk.mode = .map then none else if o + n ≤ blk.cells.length then some ((blk.cells.drop o).take n) else none
  | none => none

def storeN (H : CHeap) (b o : Nat) (vs : List CV) : Option CHeap :=
  match H[b]? with
  | some blk => if blk.mode = .rw ∧ o + vs.length ≤ blk.cells.length ∧ vs.all leaf = true then some (H.set b { blk with cells := splice blk.cells o vs }) else none
  | none => none

inductive Opd where
  | tmp (t : Nat)
  | const (v : CV)
  deriving Inhabited

abbrev Env := Nat → CV

def Env.ev (E : Env) : Opd → CV
  | .tmp t => E t
  | .const v => v

def Env.upd (E : Env) (d : Nat) (v : CV) : Env := fun t => if t = d then v else E t

def Env.put (E : Env) (d : Option Nat) (v : CV) : Env :=
  match d with
  | some d => E.upd d v
  | none => E

inductive COp where
  | mov (x : Opd)
  | pick (c a b : Opd)
  | new (cells : List CV)
  | box (x : Opd)
  | build (zero : List CV) (parts : List (Nat × Nat × Opd))
  | buildSlice (esz : Nat) (cells : List CV) (len : Nat) (parts : List (Nat × Nat × Opd))
  | load (agg : Bool) (n : Nat) (a : Opd)
  | store (n : Nat) (a v : Opd)
  | nilCheck (x : Opd)
  | bin (op : BinOp) (x y : Opd)
  | shift (op : BinOp) (x y : Opd)
  | conv (k : IntKind) (x : Opd)
  | mm (big : Bool) (l : List Opd)
  | indexA (n esz : Nat) (x i : Opd)
  | indexS (l : List Nat) (i : Opd)
  | indexV (n : Nat) (x i : Opd)
  | eqv (neg : Bool) (ty : Nat) (x y : Opd)
  | eqs (neg : Bool) (n : Nat) (x y : Opd)
  | eqb (neg : Bool) (n : Nat) (x y : Opd)
  | not (x : Opd)
  | mkfunc (f : Nat) (caps : List Opd)
  | makeSlice (esz : Nat) (zero : List CV) (l c : Opd)
  | slice (esz : Nat) (x : Opd) (lo hi mx : Option Opd)
  | field (off : Nat) (x : Opd)
  | index (esz : Nat) (x i : Opd)
  | extract (x : Opd) (i : Nat)
  | len (x : Opd)
  | append (esz : Nat) (s x : Opd)
  | copy (esz : Nat) (d s : Opd)
  | clear (zero : List CV) (s : Opd)
  | call (f : Nat) (args : List Opd)
  | callv (g : Opd) (args : List Opd)
  | mkif (t : Nat) (x : Opd)
  | mkmeth (name : String) (x : Opd)
  | callm (g : Opd) (args : List Opd) (tbl : List (Nat × String × Nat))
  | invk (name : String) (x : Opd) (args : List Opd) (tbl : List (Nat × String × Nat))
  | mapNew
  | mapGet (ok : Bool) (k : IntKind) (zero : CV) (m x : Opd)
  | mapLen (m : Opd)
  | mapSet (k : IntKind) (m x v : Opd)
  | mapDel (k : IntKind) (m x : Opd)
  | mapClear (m : Opd)
  | sortI (x : Opd)
  | keysSorted (g : Nat) (x : Opd)
  deriving Inhabited

def intOp (op : BinOp) (k : IntKind) (a b : Int) : Option CV :=
  match op with
  | .add => some (.int k (k.wrap (a + b)))
  | .sub => some (.int k (k.wrap (a - b)))
  | .mul => some (.int k (k.wrap (a * b)))
  | .quo => if b = 0 then none else some (.int k (k.wrap (a.tdiv b)))
  | .rem => if b = 0 then none else some (.int k (a.tmod b))
  | .eql => some (.bool (a == b))
  | .neq => some (.bool (a != b))
  | .lss => some (.bool (decide (a < b)))
  | .leq => some (.bool (decide (a ≤ b)))
  | .gtr => some (.bool (decide (a > b)))
  | .geq => some (.bool (decide (a ≥ b)))
  | .and => some (.int k (k.wrap (BitVec.ofInt k.bits a &&& BitVec.ofInt k.bits b).toNat))
  | .or => some (.int k (k.wrap (BitVec.ofInt k.bits a ||| BitVec.ofInt k.bits b).toNat))
  | .xor => some (.int k (k.wrap (BitVec.ofInt k.bits a ^^^ BitVec.ofInt k.bits b).toNat))
  | .andNot => some (.int k (k.wrap (BitVec.ofInt k.bits a &&& ~~~BitVec.ofInt k.bits b).toNat))
  | _ => none

/-- Shifting by a count that is not negative. -/
def shiftOp (op : BinOp) (k : IntKind) (a b : Int) : Option CV :=
  if b < 0 then none else
  match op with
  | .shl => some (.int k (k.wrap (a * 2 ^ min b.toNat k.bits)))
  | .shr => some (.int k (a.fdiv (2 ^ min b.toNat k.bits)))
  | _ => none

/-- The greatest, or the least, of integers. -/
def mm2 (big : Bool) : CV → CV → Option CV
  | .int k x, .int _ y => some (.int k (if big then (if y > x then y else x) else (if y < x then y else x)))
  | _, _ => none
def mmOf (big : Bool) : List CV → Option CV
  | [] => none
  | x :: r => r.foldlM (mm2 big) x

/-- Equality of cells that are integers, of one kind each. -/
def eqBools : List CV → List CV → Option Bool
  | [], [] => some true
  | .bool a :: r, .bool b :: r' => (eqBools r r').map fun t => (a == b) && t
  | _, _ => none

def eqCells : List CV → List CV → Option Bool
  | [], [] => some true
  | .int k a :: r, .int k' b :: r' => if k = k' then (eqCells r r').map fun t => (a == b) && t else none
  | _, _ => none

/-- Equality of bools (0), of pointers of which one is nil (1), of slices of which one is nil (2). -/
def eqVal : Nat → CV → CV → Option Bool
  | 0, .bool a, .bool b => some (a == b)
  | 1, .nilPtr, .nilPtr => some true
  | 1, .nilPtr, .ptr _ _ => some false
  | 1, .ptr _ _, .nilPtr => some false
  | 2, .nilSlice, .nilSlice => some true
  | 2, .nilSlice, .slice .. => some false
  | 2, .slice .., .nilSlice => some false
  | _, _, _ => none

def fill (cells : List CV) : List (Nat × Nat × CV) → Option (List CV)
  | [] => some cells
  | (off, size, v) :: rest => if (cellsOf v).length = size ∧ off + size ≤ cells.length then fill (splice cells off (cellsOf v)) rest else none

def evParts (E : Env) (ps : List (Nat × Nat × Opd)) : List (Nat × Nat × CV) := ps.map fun p => (p.1, p.2.1, E.ev p.2.2)

/-- The most elements that a slice of the clean machine may get. -/
abbrev maxEls : Nat := 16777216

/-- The cells of a slice's elements. -/
def elems (H : CHeap) (esz : Nat) : CV → Option (Nat × List CV)
  | .nilSlice => some (0, [])
  | .slice b o len _ _ _ => if len = 0 then some (0, []) else (loadN H b o (len * esz)).map fun cs => (len, cs)
  | _ => none

/-- Appending where nothing that exists is changed: what is made, and the value by the new block's number. -/
def appendMk (H : CHeap) (esz : Nat) (s : CV) (n : Nat) (new : List CV) : Option (Option Blk × (Nat → CV)) :=
  match s with
  | .nilSlice => if n = 0 then some (none, fun _ => s) else if n ≤ maxEls then some (some ⟨new, .rw, esz⟩, fun k => .slice k 0 n n esz true) else none
  | .slice b o len cap e tail =>
    if n = 0 then some (none, fun _ => s)
    else if tail = false ∧ cap < len + n ∧ len + n ≤ maxEls then
      (if len = 0 then some [] else loadN H b o (len * esz)).map fun old => (some ⟨old ++ new, .rw, esz⟩, fun k => .slice k 0 (len + n) (len + n) esz true)
    else none
  | _ => none

/-- Appending, whatever it changes. -/
def appendTo (H : CHeap) (esz : Nat) (s : CV) (n : Nat) (new : List CV) : Option (CV × CHeap) :=
  match s with
  | .nilSlice => if n = 0 then some (s, H) else if n ≤ maxEls then some (.slice H.length 0 n n esz true, H ++ [⟨new, .rw, esz⟩]) else none
  | .slice b o len cap e tail =>
    if n = 0 then some (s, H)
    else if len + n ≤ cap then (storeN H b (o + len * esz) new).map fun H' => (.slice b o (len + n) cap e tail, H')
    else if len + n ≤ maxEls then
      (if len = 0 then some [] else loadN H b o (len * esz)).bind fun old =>
        if tail then
          match H[b]? with
          | some blk => if blk.mode = .rw ∧ e = esz ∧ o + cap * esz = blk.cells.length ∧ new.all leaf = true then
              some (.slice H.length 0 (len + n) (len + n) esz true, H.set b { blk with mode := .dead } ++ [⟨old ++ new, .rw, esz⟩]) else none
          | none => none
        else some (.slice H.length 0 (len + n) (len + n) esz true, H ++ [⟨old ++ new, .rw, esz⟩])
    else none
  | _ => none

/-- The entry of a key: its place, and its value. -/
def mfind (k : IntKind) (n : Int) : List CV → Nat → Option (Option (Nat × CV))
  | [], _ => some none
  | .tup [.int k' n', v] :: r, i => if k = k' then (if n == n' then some (some (i, v)) else mfind k n r (i + 1)) else none
  | _ :: _, _ => none

/-- A map that is ranged over holds its entries so; it is not written meanwhile. -/
def entCells : List CV → List CV
  | [.agg es] => es
  | es => es
def isFrz : List CV → Bool
  | [.agg _] => true
  | _ => false

/-- The entries of a map. -/
def entriesOf (H : CHeap) : CV → Option (List CV)
  | .nilMap => some []
  | .mapv b => match H[b]? with
    | some blk => if blk.mode = .map ∧ blk.esz = 0 then some (entCells blk.cells) else none
    | none => none
  | _ => none

/-- A map that is not ranged over: its block and its entries. -/
def mapOf (H : CHeap) : CV → Option (Nat × List CV)
  | .mapv b => match H[b]? with
    | some ⟨es, .map, 0⟩ => if isFrz es then none else some (b, es)
    | _ => none
  | _ => none

def mapGetOf (H : CHeap) (ok : Bool) (k : IntKind) (zero m x : CV) : Option CV :=
  match x with
  | .int k' n => if k = k' then (entriesOf H m).bind fun es => (mfind k n es 0).map fun r =>
      match r with
      | some (_, v) => if ok then .tup [v, .bool true] else v
      | none => if ok then .tup [zero, .bool false] else zero
    else none
  | _ => none

def setEntries (H : CHeap) (b : Nat) (es : List CV) : Option CHeap :=
  match H[b]? with
  | some blk => if blk.mode = .map ∧ blk.esz = 0 ∧ isFrz blk.cells = false then some (H.set b { blk with cells := es }) else none
  | none => none

def mapSetOf (H : CHeap) (k : IntKind) (m x v : CV) : Option CHeap :=
  match m, x with
  | .mapv b, .int k' n => if k = k' ∧ leaf v = true then (entriesOf H m).bind fun es => (mfind k n es 0).bind fun r =>
      match r with
      | some (i, _) => setEntries H b (es.set i (.tup [.int k n, v]))
      | none => setEntries H b (es ++ [.tup [.int k n, v]])
    else none
  | _, _ => none

def mapDelOf (H : CHeap) (k : IntKind) (m x : CV) : Option CHeap :=
  match m, x with
  | .mapv b, .int k' n => if k = k' then (entriesOf H m).bind fun es => (mfind k n es 0).bind fun r =>
      match r with
      | some (i, _) => setEntries H b (es.eraseIdx i)
      | none => setEntries H b es
    else none
  | .nilMap, .int k' _ => if k = k' then some H else none
  | _, _ => none

def bound (E : Env) (x : Opd) (m : Nat) : Option Nat :=
  match E.ev x with
  | .int _ i => if 0 ≤ i ∧ i ≤ (m : Int) then some i.toNat else none
  | _ => none

def boundO (E : Env) (x : Option Opd) (m d : Nat) : Option Nat :=
  match x with
  | some v => bound E v m
  | none => some d

/-- The three bounds of a slice expression: low, high, max. -/
def sliceBnds (E : Env) (len cap : Nat) (lo hi mx : Option Opd) : Option (Nat × Nat × Nat) :=
  if mx.isSome = true ∧ hi.isNone = true then none else
  (boundO E mx cap cap).bind fun m => (boundO E hi m len).bind fun h => (boundO E lo h 0).bind fun l => some (l, h, m)

def sliceTo (E : Env) (esz : Nat) (x : CV) (lo hi mx : Option Opd) : Option CV :=
  match x with
  | .nilSlice => (sliceBnds E 0 0 lo hi mx).map fun _ => .nilSlice
  | .slice b o len cap e tail => if e = esz ∧ len ≤ cap then (sliceBnds E len cap lo hi mx).map fun r => .slice b (o + r.1 * esz) (r.2.1 - r.1) (r.2.2 - r.1) e (tail && mx.isNone) else none
  | _ => none

/-- An operation that changes nothing that exists: the block that it makes, if any, and its value by that block's number. -/
def mkOf (op : COp) (E : Env) (H : CHeap) : Option (Option Blk × (Nat → CV)) :=
  match op with
  | .mov x => some (none, fun _ => E.ev x)
  | .pick c a b => match E.ev c with | .bool t => some (none, fun _ => if t then E.ev a else E.ev b) | _ => none
  | .new cells => some (some ⟨cells, .rw, 0⟩, fun k => .ptr k 0)
  | .mapNew => some (some ⟨[], .map, 0⟩, fun k => .mapv k)
  | .box x => some (some ⟨cellsOf (E.ev x), .rw, 0⟩, fun k => .ptr k 0)
  | .build zero parts => (fill zero (evParts E parts)).map fun cs => (none, fun _ => .agg cs)
  | .buildSlice esz cells len parts => (fill cells (evParts E parts)).map fun cs => (some ⟨cs, .rw, esz⟩, fun k => .slice k 0 len len esz false)
  | .load agg n a => match E.ev a with
    | .ptr b o => if agg then (loadN H b o n).map fun cs => (none, fun _ => .agg cs) else (load1 H b o).map fun v => (none, fun _ => v)
    | _ => none
  | .nilCheck x => match E.ev x with
    | .ptr b o => some (none, fun _ => .ptr b o)
    | .iface t c => some (none, fun _ => .iface t c)
    | _ => none
  | .mkif t x => some (none, fun _ => .iface t (E.ev x))
  | .mkmeth name x => some (none, fun _ => .meth name (E.ev x))
  | .bin op x y => match E.ev x, E.ev y with
    | .int k a, .int k' b => if k = k' then (intOp op k a b).map fun v => (none, fun _ => v) else none
    | _, _ => none
  | .shift op x y => match E.ev x, E.ev y with
    | .int k a, .int _ b => (shiftOp op k a b).map fun v => (none, fun _ => v)
    | _, _ => none
  | .conv k x => match E.ev x with | .int _ n => some (none, fun _ => .int k (k.wrap n)) | _ => none
  | .mm big l => (mmOf big (l.map E.ev)).map fun v => (none, fun _ => v)
  | .indexA n esz x i => match E.ev x, E.ev i with
    | .ptr b o, .int _ i => if 0 ≤ i ∧ i < (n : Int) then some (none, fun _ => .ptr b (o + i.toNat * esz)) else none
    | _, _ => none
  | .indexS l i => match E.ev i with
    | .int _ i => if 0 ≤ i then (l[i.toNat]?).map fun (v : Nat) => (none, fun _ => CV.int .u8 (v : Int)) else none
    | _ => none
  | .indexV n x i => match E.ev x, E.ev i with
    | .agg cs, .int _ i => if 0 ≤ i ∧ i < (n : Int) then (cs[i.toNat]?).map fun v => (none, fun _ => v) else none
    | _, _ => none
  | .eqb neg n x y => match E.ev x, E.ev y with
    | .agg xs, .agg ys => if xs.length = n then (eqBools xs ys).map fun t => (none, fun _ => .bool (if neg then !t else t)) else none
    | _, _ => none
  | .eqv neg ty x y => (eqVal ty (E.ev x) (E.ev y)).map fun t => (none, fun _ => .bool (if neg then !t else t))
  | .eqs neg n x y => match E.ev x, E.ev y with
    | .agg xs, .agg ys => if xs.length = n then (eqCells xs ys).map fun t => (none, fun _ => .bool (if neg then !t else t)) else none
    | _, _ => none
  | .not x => match E.ev x with | .bool t => some (none, fun _ => .bool !t) | _ => none
  | .mkfunc f caps => some (none, fun _ => .func f (caps.map E.ev))
  | .makeSlice esz zero l c => match E.ev l, E.ev c with
    | .int .i64 l, .int .i64 c => if 0 ≤ l ∧ l ≤ c ∧ c ≤ (maxEls : Int) then
        some (some ⟨(List.replicate c.toNat zero).flatten, .rw, esz⟩, fun k => .slice k 0 l.toNat c.toNat esz false) else none
    | _, _ => none
  | .slice esz x lo hi mx => (sliceTo E esz (E.ev x) lo hi mx).map fun v => (none, fun _ => v)
  | .field off x => match E.ev x with | .ptr b o => some (none, fun _ => .ptr b (o + off)) | _ => none
  | .index esz x i => match E.ev x, E.ev i with
    | .slice b o len _ _ _, .int _ i => if 0 ≤ i ∧ i < (len : Int) then some (none, fun _ => .ptr b (o + i.toNat * esz)) else none
    | _, _ => none
  | .extract x i => match E.ev x with | .tup vs => vs[i]?.map fun v => (none, fun _ => v) | _ => none
  | .len x => match E.ev x with
    | .slice _ _ len _ _ _ => some (none, fun _ => .i len)
    | .nilSlice => some (none, fun _ => .i 0)
    | _ => none
  | .append esz s x => (elems H esz (E.ev x)).bind fun p => appendMk H esz (E.ev s) p.1 p.2
  | .mapGet ok k z m x => (mapGetOf H ok k z (E.ev m) (E.ev x)).map fun v => (none, fun _ => v)
  | .mapLen m => (entriesOf H (E.ev m)).map fun es => (none, fun _ => .i es.length)
  | .store .. | .copy .. | .clear .. | .call .. | .callv .. | .callm .. | .invk .. | .mapSet .. | .mapDel .. | .mapClear .. | .sortI .. | .keysSorted .. => none

/-- Integers, sorted. -/
def layZ (a : Int) : List Int → List Int
  | [] => [a]
  | b :: l => if a ≤ b then a :: b :: l else b :: layZ a l
def sortZ : List Int → List Int
  | [] => []
  | a :: l => layZ a (sortZ l)
def inI64 (n : Int) : Bool := decide (-9223372036854775808 ≤ n) && decide (n ≤ 9223372036854775807)
def intsOf : List CV → Option (List Int)
  | [] => some []
  | .int .i64 n :: r => (intsOf r).map (n :: ·)
  | _ :: _ => none
def keysOf : List CV → Option (List Int)
  | [] => some []
  | .tup [.int .i64 n, _] :: r => (keysOf r).map (n :: ·)
  | _ :: _ => none

/-- What a steady operation comes to. -/
def made (H : CHeap) (m : Option Blk × (Nat → CV)) : CV × CHeap :=
  match m.1 with
  | none => (m.2 H.length, H)
  | some b => (m.2 H.length, H ++ [b])

/-- An operation that calls nothing: its value and the heap behind it. -/
def opv (op : COp) (E : Env) (H : CHeap) : Option (CV × CHeap) :=
  match op with
  | .store n a v => match E.ev a with
    | .ptr b o => if (cellsOf (E.ev v)).length = n then (storeN H b o (cellsOf (E.ev v))).map fun H' => (.undef, H') else none
    | _ => none
  | .append esz s x => (elems H esz (E.ev x)).bind fun p => appendTo H esz (E.ev s) p.1 p.2
  | .copy esz d s => match E.ev d, E.ev s with
    | .slice b o len _ _ _, .slice b' o' len' _ _ _ =>
      if min len' len = 0 then some (.i 0, H) else
      (loadN H b' o' (min len' len * esz)).bind fun cs => (storeN H b o cs).map fun H' => (.i (min len' len : Nat), H')
    | .nilSlice, .slice .. => some (.i 0, H)
    | .slice .., .nilSlice => some (.i 0, H)
    | .nilSlice, .nilSlice => some (.i 0, H)
    | _, _ => none
  | .clear zero s => match E.ev s with
    | .slice b o len _ _ _ => if len = 0 then some (.tup [], H) else (storeN H b o (List.replicate len zero).flatten).map fun H' => (.tup [], H')
    | .nilSlice => some (.tup [], H)
    | _ => none
  | .mapSet k m x v => (mapSetOf H k (E.ev m) (E.ev x) (E.ev v)).map fun H' => (.undef, H')
  | .mapDel k m x => (mapDelOf H k (E.ev m) (E.ev x)).map fun H' => (.tup [], H')
  | .mapClear m => match E.ev m with
    | .mapv b => (setEntries H b []).map fun H' => (.tup [], H')
    | .nilMap => some (.tup [], H)
    | _ => none
  | .sortI x => match E.ev x with
    | .slice b o len _ e _ => if len = 0 then some (.tup [], H) else if e = 1 ∧ len ≤ maxEls then (loadN H b o len).bind fun cs => (intsOf cs).bind fun l => (storeN H b o ((sortZ l).map .i)).map fun H' => (.tup [], H') else none
    | .nilSlice => some (.tup [], H)
    | _ => none
  | .keysSorted g x => match E.ev x with
    | .func f [.ptr b 0] => if f = g then match H[b]? with
        | some ⟨[m], .rw, 0⟩ => (mapOf H m).bind fun y => (keysOf y.2).bind fun l =>
          if l.length = 0 then some (.nilSlice, H) else if l.length ≤ maxEls ∧ l.all inI64 = true then some (.slice H.length 0 l.length l.length 1 true, H ++ [⟨(sortZ l).map .i, .rw, 1⟩]) else none
        | _ => none
      else none
    | _ => none
  | op => (mkOf op E H).map (made H)

structure CStmt where
  dst : Option Nat
  guard : Option (Nat × Bool)
  op : COp
  deriving Inhabited

/-- An operation of a region that draws its order. The list stands in an order in which each one comes as late as it can. 'no': its number in the text; 'kind': 0: it looks at its operands alone; 1: it reads memory; 3: it may change memory; 'low': behind how many of the changing ones it surely comes. -/
structure DStmt where
  s : CStmt
  no : Nat
  kind : Nat
  low : Nat
  deriving Inhabited

/-- A range over a map: the map; the temporaries for the iterator, what comes next, whether there is more, and the entry; the block that the loop leaves; the temporaries that are used behind the rest of the function. -/
structure RM where
  m : Opd
  it : Nat
  nx : Nat
  more : Nat
  pair : Nat
  id : Nat
  live : List Nat
  deriving Inhabited

inductive CCode where
  | skip
  | region (ops : List CStmt)
  | dregion (ops : List DStmt)
  | seq (a b : CCode)
  | cond (c : Opd) (a b : CCode)
  | block (id : Nat) (c : CCode)
  | loop (c : CCode)
  | rangeF (g : Opd) (ps : List Nat) (n z : Nat)
  | rangeM (q : RM) (body rest : CCode)
  | exit (id : Nat)
  | ret
  deriving Inhabited

inductive CRes where
  | tmp (t : Nat)
  | cell (t : Nat) (agg : Bool) (n : Nat)
  deriving Inhabited

/-- 'n': how many temporaries it has; 'round': 0: a function; of a loop over a function 1: what a round begins with, 2: its body. -/
structure CFunc where
  n : Nat
  round : Nat
  body : CCode
  res : List CRes
  deriving Inhabited

abbrev CProg := Nat → Option CFunc

inductive CX where
  | normal
  | exit (id : Nat)
  | ret
  deriving DecidableEq, Inhabited

def wanted (g : Option (Nat × Bool)) (E : Env) : Bool :=
  match g with
  | none => true
  | some (t, want) => match E t with
    | .bool b => b == want
    | _ => false

abbrev CallF := Nat → List CV → CHeap → Option (CV × CHeap)

/-- The function of a method of a type. -/
def methIn (tbl : List (Nat × String × Nat)) (t : Nat) (name : String) : Option Nat := (tbl.find? fun e => e.1 == t && e.2.1 == name).map (·.2.2)

/-- The block of a loop over a function: its state (0: ready, 1: busy, j + 1: left by the jump j), and what a round begins with; 'z': the number of the round's code. -/
def loopBlk (s : Int) (ps env : List CV) (z : Nat) : Blk := ⟨[.i s, .tup ps, .tup env], .map, z + 1⟩

def setAll (env : List CV) : List CV → List CV → List CV
  | .int _ t :: ps, v :: vs => setAll (env.set t.toNat v) ps vs
  | _, _ => env

/-- Functions have numbers below this; from here on the rounds of loops over functions. -/
abbrev RB : Nat := 1000000

/-- The body of a round, behind what the round begins with. -/
def yieldBody (F : CallF) (b z : Nat) (r : CV × CHeap) : Option (CV × CHeap) :=
  match r.1, r.2[b]? with
  | .tup env, some ⟨[.int .i64 s, .tup ps, .tup e0], .map, z0 + 1⟩ =>
    if s = 0 ∧ z0 = z then
      (F (RB + z + 1) env (r.2.set b (loopBlk 1 ps e0 z))).bind fun r =>
        match r.1, r.2[b]? with
        | .int .i64 j, some ⟨[.int .i64 _, .tup ps', .tup env'], .map, z' + 1⟩ => some (.bool (j == 0), r.2.set b (loopBlk (if j = 0 then 0 else j + 1) ps' env' z'))
        | _, _ => none
    else none
  | _, _ => none

/-- A round. -/
def yieldOf (F : CallF) (b : Nat) (args : List CV) (H : CHeap) : Option (CV × CHeap) :=
  match H[b]? with
  | some ⟨[.int .i64 s, .tup ps, .tup env], .map, z + 1⟩ =>
    if s = 0 ∧ args.length = ps.length then (F (RB + z) (setAll env ps args) H).bind (yieldBody F b z) else none
  | _ => none

/-- Any operation. -/
def opc (F : CallF) (op : COp) (E : Env) (H : CHeap) : Option (CV × CHeap) :=
  match op with
  | .call f args => F f (args.map E.ev) H
  | .callv g args => match E.ev g with
    | .func f caps => if f < RB then F f (args.map E.ev ++ caps) H else none
    | .yld b => yieldOf F b (args.map E.ev) H
    | _ => none
  | .callm g args tbl => match E.ev g with
    | .func f caps => if f < RB then F f (args.map E.ev ++ caps) H else none
    | .meth name (.iface t x) => (methIn tbl t name).bind fun f => F f (x :: args.map E.ev) H
    | .yld b => yieldOf F b (args.map E.ev) H
    | _ => none
  | .invk name x args tbl => match E.ev x with
    | .iface t x => (methIn tbl t name).bind fun f => F f (x :: args.map E.ev) H
    | _ => none
  | op => opv op E H

def evStmt (F : CallF) (s : CStmt) (E : Env) (H : CHeap) : Option (Env × CHeap) :=
  if wanted s.guard E then (opc F s.op E H).map fun p => (E.put s.dst p.1, p.2) else some (E.put s.dst .undef, H)

def evOps (F : CallF) : List CStmt → Env → CHeap → Option (Env × CHeap)
  | [], E, H => some (E, H)
  | s :: r, E, H => (evStmt F s E H).bind fun p => evOps F r p.1 p.2

open Classical in
/-- A region that draws its order: what reads memory reads the same in each state in which it may come up. 'hs': the heaps ahead of the changing operations so far, the last one first. -/
noncomputable def evD (F : CallF) : List DStmt → Env → CHeap → List CHeap → Option (Env × CHeap)
  | [], E, H, _ => some (E, H)
  | d :: r, E, H, hs =>
    if wanted d.s.guard E = false then evD F r (E.put d.s.dst .undef) H (if d.kind = 3 then H :: hs else hs)
    else if d.kind = 3 then (opc F d.s.op E H).bind fun p => evD F r (E.put d.s.dst p.1) p.2 (H :: hs)
    else (mkOf d.s.op E H).bind fun m =>
      if d.kind = 1 → ∀ H' ∈ hs.take (hs.length - d.low), mkOf d.s.op E H' = some m then
        evD F r (E.put d.s.dst (made H m).1) (made H m).2 hs else none

def entry (args : List CV) : Env := fun t => args.getD t .undef

def resOf (E : Env) (H : CHeap) : CRes → Option CV
  | .tmp t => some (E t)
  | .cell t agg n => match E t with
    | .ptr b o => if agg then (loadN H b o n).map .agg else load1 H b o
    | _ => none

def resAll (E : Env) (H : CHeap) : List CRes → Option (List CV)
  | [] => some []
  | r :: rs => (resOf E H r).bind fun v => (resAll E H rs).map (v :: ·)

def results (cf : CFunc) (E : Env) (H : CHeap) : Option CV :=
  (resAll E H cf.res).map fun | [v] => v | vs => .tup vs

def CX.code : CX → Int
  | .normal => 0
  | .ret => 1
  | .exit id => id + 2

/-- The end of a body. -/
def leave (cf : CFunc) (r : CX × Env × CHeap) : Option (CV × CHeap) :=
  if cf.round = 2 then some (.i r.1.code, r.2.2) else
  if cf.round = 1 then (match r.1 with | .normal => some (.tup ((List.range cf.n).map r.2.1), r.2.2) | _ => none) else
  match r.1 with
  | .normal | .ret => (results cf r.2.1 r.2.2).map fun v => (v, r.2.2)
  | .exit _ => none

def CX.inBlock (id : Nat) : CX → CX
  | .exit id' => if id' = id then .normal else .exit id'
  | x => x

/-- A loop over a function begins. -/
def rangeIn (F : CallF) (g : CV) (ps : List Nat) (n z : Nat) (E : Env) (H : CHeap) : Option (CV × CHeap) :=
  match g with
  | .func f caps => if f < RB then F f (.yld H.length :: caps) (H ++ [loopBlk 0 (ps.map fun (t : Nat) => CV.i (t : Int)) ((List.range n).map E) z]) else none
  | _ => none

/-- And ends. -/
def rangeOut (E : Env) (b : Nat) (r : CV × CHeap) : Option (CX × Env × CHeap) :=
  match r.2[b]? with
  | some ⟨[.int .i64 s, .tup _, .tup _], .map, _ + 1⟩ =>
    if s = 0 then some (.normal, E, r.2.set b ⟨[], .dead, 0⟩)
    else if s = 2 then some (.ret, E, r.2.set b ⟨[], .dead, 0⟩)
    else if 3 ≤ s then some (.exit (s - 3).toNat, E, r.2.set b ⟨[], .dead, 0⟩)
    else none
  | _ => none

/-- An entry of a map comes. -/
def RM.beg (q : RM) (e : CV) (E : Env) : Env :=
  match e with
  | .tup [k, v] => ((E.upd q.nx (.tup [.bool true, k, v])).upd q.more (.bool true)).upd q.pair (.tup [k, v])
  | _ => E
/-- None is left. -/
def RM.fin (q : RM) (E : Env) : Env := (E.upd q.nx (.tup [.bool false])).upd q.more (.bool false)

open Classical in
/-- The rounds of a range over a map, in an order of its entries; the map may not change meanwhile. 'R': a round. -/
noncomputable def runKeys (R : Env → CHeap → Option (CX × Env × CHeap)) (q : RM) (mb : Nat) (es : List CV) (it : Nat) : List CV → Env → CHeap → Option (CX × Env × CHeap)
  | [], E, H => some (.normal, q.fin E, H)
  | e :: l, E, H => (R (q.beg e E) H).bind fun r =>
    if r.2.2[mb]? = some ⟨[.agg es], .map, 0⟩ ∧ r.2.1 q.it = .ptr it 0 then
      match r.1 with
      | .normal => runKeys R q mb es it l r.2.1 r.2.2
      | _ => some r
    else none

/-- Behind such a loop, in the block that it leaves: the rest of the function. -/
def thenRest (id : Nat) (R : Env → CHeap → Option (CX × Env × CHeap)) (r : CX × Env × CHeap) : Option (CX × Env × CHeap) :=
  match r.1.inBlock id with
  | .normal => R r.2.1 r.2.2
  | x => some (x, r.2.1, r.2.2)

/-- What is newer than a state of the heap is used no more. -/
def killFrom (n : Nat) (H : CHeap) : CHeap := H.take n ++ List.replicate (H.length - n) ⟨[], .dead, 0⟩
/-- Some temporaries alone are used on. -/
def keepE (live : List Nat) (E : Env) : Env := fun t => if live.contains t then E t else .undef

/-- A range over a map, and the rest of the function, in an order of the map's entries. -/
noncomputable def rangeOne (Rb Rr : Env → CHeap → Option (CX × Env × CHeap)) (q : RM) (mb : Nat) (es : List CV) (E : Env) (H : CHeap) (l : List CV) : Option (CX × Env × CHeap) :=
  ((runKeys Rb q mb es H.length l (E.upd q.it (.ptr H.length 0)) (H.set mb ⟨[.agg es], .map, 0⟩ ++ [⟨[], .dead, 0⟩])).bind fun r => thenRest q.id Rr (r.1, r.2.1, r.2.2.set mb ⟨es, .map, 0⟩)).map
    fun r => (r.1, keepE q.live r.2.1, killFrom H.length r.2.2)

open Classical in
/-- In whatever order: it comes to the same. -/
noncomputable def rangeAll (Rb Rr : Env → CHeap → Option (CX × Env × CHeap)) (q : RM) (m : CV) (E : Env) (H : CHeap) : Option (CX × Env × CHeap) :=
  (mapOf H m).bind fun y => if h : ∃ r, ∀ l, l.Perm y.2 → rangeOne Rb Rr q y.1 y.2 E H l = some r then some h.choose else none

noncomputable def ev (p : CProg) : Nat → CCode → Env → CHeap → Option (CX × Env × CHeap)
  | 0, _, _, _ => none
  | n + 1, c, E, H =>
    let F : CallF := fun f args H => (p f).bind fun cf => if args.length ≤ cf.n then (ev p n cf.body (entry args) H).bind (leave cf) else none
    match c with
    | .skip => some (.normal, E, H)
    | .region ops => (evOps F ops E H).map fun q => (.normal, q.1, q.2)
    | .dregion ops => (evD F ops E H []).map fun q => (.normal, q.1, q.2)
    | .seq a b => (ev p n a E H).bind fun r => match r.1 with | .normal => ev p n b r.2.1 r.2.2 | _ => some r
    | .cond c a b => match E.ev c with | .bool t => ev p n (if t then a else b) E H | _ => none
    | .block id c => (ev p n c E H).map fun r => (r.1.inBlock id, r.2)
    | .loop c => (ev p n c E H).bind fun r => match r.1 with | .normal => ev p n (.loop c) r.2.1 r.2.2 | _ => some r
    | .rangeF g ps k z => (rangeIn F (E.ev g) ps k z E H).bind (rangeOut E H.length)
    | .rangeM q b r => rangeAll (ev p n b) (ev p n r) q (E.ev q.m) E H
    | .exit id => some (.exit id, E, H)
    | .ret => some (.ret, E, H)

noncomputable def callN (p : CProg) (n : Nat) : CallF := fun f args H => (p f).bind fun cf => if args.length ≤ cf.n then (ev p n cf.body (entry args) H).bind (leave cf) else none

end Go.Cs

/- From the model's code to the clean machine's. -/
namespace Go.Cs
open Go

def cvLeaf : Value → Option CV
  | .bool b => some (.bool b)
  | .int k n => some (.int k n)
  | .pointer none => some .nilPtr
  | .slice none 0 0 => some .nilSlice
  | .nilFunc => some .nilFunc
  | .map none => some .nilMap
  | .nilIface => some .nilIface
  | _ => none

def allSome {α : Type} : List (Option α) → Option (List α)
  | [] => some []
  | none :: _ => none
  | some a :: r => (allSome r).map (a :: ·)

def opd : Operand → Option Opd
  | .tmp t => some (.tmp t)
  | .const v => (cvLeaf v).map .const
  | .func f => some (.const (.func f []))
  | .global _ => none

def opds (l : Array Operand) : Option (List Opd) := allSome (l.toList.map opd)

def opdO : Option Operand → Option (Option Opd)
  | none => some none
  | some x => (opd x).map some

def zeroOf (P : Program) (t : TypeId) : Option (List CV) :=
  (P.info? t).bind fun i => i.zero.bind fun v => allSome (v.cells.toList.map cvLeaf)

def isAggT (P : Program) (t : TypeId) : Option Bool :=
  (P.underlying t).map fun d => match d with | .struct _ | .array _ _ => true | _ => false

def sliceElem (P : Program) (t : TypeId) : Option TypeId :=
  match P.underlying t with
  | some (.slice e) => some e
  | _ => none

/-- A struct all of whose fields are integers. -/
def flatStruct (P : Program) (t : TypeId) : Bool :=
  match P.underlying t with
  | some (.struct fs) => !P.stoodInHeld t && !P.eqGuardType P.depth t &&
      fs.toList.zipIdx.all fun (f, i) => f.name != "_" && f.offset == i && (match P.underlying f.type with | some (.int _) => true | _ => false)
  | _ => false

/-- A map by integers, whose values have one cell. -/
def mapT (P : Program) (t : TypeId) : Option (IntKind × CV) :=
  match P.underlying t with
  | some (.map k e) => match P.underlying k, (P.info? e).bind (·.zero) with
    | some (.int kd), some v => (cvLeaf v).map fun z => (kd, z)
    | _, _ => none
  | _ => none

def sizeT (P : Program) (t : TypeId) : Option Nat := (P.info? t).map (·.size)
def bytesT (P : Program) (t : TypeId) : Option Nat := (P.info? t).map (·.bytes)

def compParts (P : Program) (place : Nat → Option (Nat × Nat)) (parts : Array (Nat × Operand)) : Option (List (Nat × Nat × Opd)) :=
  allSome (parts.toList.map fun (i, x) => (place i).bind fun q => (opd x).map fun y => (q.1, q.2, y))

/-- A type of bools. -/
def isBoolT (P : Program) (t : TypeId) : Bool := match P.underlying t with | some .bool => true | _ => false

/-- A name, by how it begins and how long it is. -/
def isNm (s p : String) (n : Nat) : Bool := s.toList.take p.toList.length == p.toList && s.toList.length == n
/-- Package variables that nothing writes: what they hold. -/
def globVals (s : String) : Option (List Int) :=
  if isNm s "dustcart/weak.headShape" 23 then some [8, 1, 3] else if isNm s "dustcart/weak.entryShape" 24 then some [3, 1, 2] else none
def globOf (P : Program) (g : Nat) : Option (List Int) := (P.globals[g]?).bind fun x => globVals x.name
def globLoad (P : Program) (t : TypeId) (g : Nat) : Option COp := (globOf P g).bind fun zs =>
  if isAggT P t = some true ∧ sizeT P t = some zs.length then some (.mov (.const (.agg (zs.map (.int .i64))))) else none

def guardB {α : Type} (b : Bool) (x : Option α) : Option α := if b then x else none

/-- The methods of the structs without fields, by their values. -/
def methTable (P : Program) : List (Nat × String × Nat) :=
  (List.range P.types.size).flatMap fun t => match P.info? t, P.underlying t with
    | some i, some (.struct fs) => if fs.isEmpty then i.methods.toList.filterMap fun m0 =>
        match i.methods.find? (fun m => m.name == m0.name) with
        | some m => match m.func with
          | some (f, false) => if m.path.isEmpty && decide (f < RB) then some (t, m0.name, f) else none
          | _ => none
        | none => none
      else []
    | _, _ => []

def compCall (P : Program) (c : Call) : Option COp :=
  match c.callee with
  | .value (.func f) => (opds c.args).bind fun l => guardB (decide (f < RB)) (some (.call f l))
  | .value (.tmp t) => (opds c.args).map fun l => match methTable P with | [] => .callv (.tmp t) l | tbl => .callm (.tmp t) l tbl
  | .invoke recv name => (opd recv).bind fun x => (opds c.args).map fun l => .invk name x l (methTable P)
  | .builtin .delete => match c.args.toList, c.argTypes[0]? with
    | [m, x], some t => (mapT P t).bind fun q => (opd m).bind fun m => (opd x).map fun x => .mapDel q.1 m x
    | _, _ => none
  | .builtin .len => match c.args.toList, c.argTypes[0]? with
    | [x], some t => match mapT P t with
      | some _ => (opd x).map .mapLen
      | none => (sliceElem P t).bind fun _ => (opd x).map .len
    | _, _ => none
  | .builtin .max => match c.argTypes[0]? with
    | some t => match P.underlying t with | some (.int _) => (opds c.args).map (.mm true) | _ => none
    | none => none
  | .builtin .min => match c.argTypes[0]? with
    | some t => match P.underlying t with | some (.int _) => (opds c.args).map (.mm false) | _ => none
    | none => none
  | .builtin .append => match c.args.toList, c.argTypes.toList with
    | [s, x], [t, u] => (sliceElem P t).bind fun e => (sliceElem P u).bind fun _ => (sizeT P e).bind fun n => (bytesT P e).bind fun b => (zeroOf P e).bind fun z =>
        (opd s).bind fun s => (opd x).bind fun x => guardB (decide (0 < n) && decide (0 < b) && decide (b ≤ 4096) && decide (z.length = n)) (some (.append n s x))
    | _, _ => none
  | .builtin .copy => match c.args.toList, c.argTypes.toList with
    | [d, s], [t, u] => (sliceElem P t).bind fun e => (sliceElem P u).bind fun _ => (sizeT P e).bind fun n => (opd d).bind fun d => (opd s).map fun s => .copy n d s
    | _, _ => none
  | .builtin .clear => match c.args.toList, c.argTypes[0]? with
    | [s], some t => match mapT P t with
      | some _ => (opd s).map .mapClear
      | none => (sliceElem P t).bind fun e => (zeroOf P e).bind fun z => (opd s).map fun s => .clear z s
    | _, _ => none
  | _ => none

def compOp (P : Program) (op : Op) : Option COp :=
  match op with
  | .move x | .assign x => (opd x).map .mov
  | .pick c a b => (opd c).bind fun c => (opd a).bind fun a => (opd b).map fun b => .pick c a b
  | .alloc t => (zeroOf P t).map .new
  | .box _ x => (opd x).map .box
  | .build t parts => match P.underlying t with
    | some (.struct fs) => (zeroOf P t).bind fun z => (allSome (fs.toList.map fun f => (sizeT P f.type).map fun n => (f.offset, n))).bind fun pl =>
        (compParts P (pl[·]?) parts).map fun ps => .build z ps
    | some (.array _ e) => (zeroOf P t).bind fun z => (sizeT P e).bind fun n => (compParts P (fun i => some (i * n, n)) parts).map fun ps => .build z ps
    | _ => none
  | .buildSlice t len parts => (sliceElem P t).bind fun e => (sizeT P e).bind fun n => (zeroOf P e).bind fun z =>
      (compParts P (fun i => some (i * n, n)) parts).bind fun ps =>
        guardB (decide (0 < n) && decide (z.length = n) && decide (len * n ≤ 65536)) (some (.buildSlice n (List.replicate len z).flatten len ps))
  | .load t (.global g) => globLoad P t g
  | .load t a => (isAggT P t).bind fun g => (sizeT P t).bind fun n => (opd a).map fun a => .load g n a
  | .store t a v => (sizeT P t).bind fun n => (opd a).bind fun a => (opd v).map fun v => .store n a v
  | .nilCheck x => (opd x).map .nilCheck
  | .binOp op t x y _ => (opd x).bind fun x => (opd y).bind fun y =>
      match P.underlying t with
      | some (.int _) => (match op with | .shl => some (.shift .shl x y) | .shr => some (.shift .shr x y) | op => some (.bin op x y))
      | some .bool => (match op with | .eql => some (.eqv false 0 x y) | .neq => some (.eqv true 0 x y) | _ => none)
      | some (.pointer _) => (match op with | .eql => some (.eqv false 1 x y) | .neq => some (.eqv true 1 x y) | _ => none)
      | some (.slice _) => (match op with | .eql => some (.eqv false 2 x y) | .neq => some (.eqv true 2 x y) | _ => none)
      | some (.array l e) => guardB (isBoolT P e && sizeT P e == some 1 && isAggT P e == some false && !P.eqGuardType P.depth t) (match op with | .eql => some (.eqb false l x y) | .neq => some (.eqb true l x y) | _ => none)
      | some (.struct fs) => guardB (flatStruct P t) (match op with | .eql => some (.eqs false fs.size x y) | .neq => some (.eqs true fs.size x y) | _ => none)
      | _ => none
  | .unOp .not _ x => (opd x).map .not
  | .makeFunc (.method name) first caps => match first.toList with
    | [x] => if caps.isEmpty then (opd x).map (.mkmeth name) else none
    | _ => none
  | .makeInterface t x => match P.underlying t with
    | some (.struct _) => (opd x).map (.mkif t)
    | _ => none
  | .makeFunc (.func f) first caps => if first.isEmpty then (opds caps).map (.mkfunc f) else none
  | .makeSlice t l c => (sliceElem P t).bind fun e => (sizeT P e).bind fun n => (bytesT P e).bind fun b => (zeroOf P e).bind fun z => (opd l).bind fun l => (opd c).bind fun c =>
      guardB (decide (0 < n) && decide (z.length = n) && decide (b ≤ 4096)) (some (.makeSlice n z l c))
  | .slice t x lo hi mx => (sliceElem P t).bind fun e => (sizeT P e).bind fun n => (opd x).bind fun x => (opdO lo).bind fun lo => (opdO hi).bind fun hi => (opdO mx).map fun mx => .slice n x lo hi mx
  | .fieldAddr s x f => match P.underlying s with
    | some (.struct fs) => (fs[f]?).bind fun fd => (sizeT P fd.type).bind fun n => (opd x).bind fun x => guardB (decide (n ≠ 0)) (some (.field fd.offset x))
    | _ => none
  | .index t (.const (.string s)) i => match P.underlying t with
    | some .string => (opd i).map (.indexS (s.data.toList.map UInt8.toNat))
    | _ => none
  | .index t (.tmp x) i => match P.underlying t with
    | some (.array l e) => guardB (sizeT P e == some 1 && isAggT P e == some false) ((opd (.tmp x)).bind fun x => (opd i).map fun i => .indexV l x i)
    | _ => none
  | .indexAddr t x i => match P.underlying t with
    | some (.array l e) => (sizeT P e).bind fun n => (opd x).bind fun x => (opd i).map fun i => .indexA l n x i
    | some (.slice e) => (sizeT P e).bind fun n => (opd x).bind fun x => (opd i).map fun i => .index n x i
    | _ => none
  | .convert s d x => match P.underlying s, P.underlying d with
    | some (.int _), some (.int k) => (opd x).map (.conv k)
    | _, _ => none
  | .makeMap t none => (mapT P t).map fun _ => .mapNew
  | .lookup t m x ok => (mapT P t).bind fun q => (opd m).bind fun m => (opd x).map fun x => .mapGet ok q.1 q.2 m x
  | .mapUpdate t m x v => (mapT P t).bind fun q => (opd m).bind fun m => (opd x).bind fun x => (opd v).map fun v => .mapSet q.1 m x v
  | .extract x i => (opd x).map fun x => .extract x i
  | .call c => compCall P c
  | _ => none

/-- The slot that a guard looks at. -/
def compGuard (ops : Array Oper) (g : Option (Nat × Bool)) : Option (Option (Nat × Bool)) :=
  match g with
  | none => some none
  | some (j, b) => ((ops[j]?).bind (·.dst)).map fun t => some (t, b)

def compStmt (P : Program) (n : Nat) (ops : Array Oper) (o : Oper) : Option CStmt :=
  (compGuard ops o.guard).bind fun g => (compOp P o.op).bind fun op =>
    guardB (match o.dst with | some d => decide (d < n) | none => true) (some ⟨o.dst, g, op⟩)

/-- 0: it looks at its operands alone; 1: it reads memory; 2: an append; 3: it may change memory. -/
def kindOf : COp → Nat
  | .load .. => 1
  | .append .. => 2
  | .mapGet .. | .mapLen .. => 1
  | .store .. | .copy .. | .clear .. | .call .. | .callv .. | .callm .. | .invk .. | .mapSet .. | .mapDel .. | .mapClear .. | .sortI .. | .keysSorted .. => 3
  | _ => 0

def edgesOf (o : Oper) : List Nat := (o.after.toList.filter (Region.binds .any)).map (·.on)

/-- Of each operation: those that surely come ahead of it. -/
def ancs (ops : List Oper) : List (List Nat) :=
  ops.foldl (fun acc o => acc ++ [(edgesOf o).flatMap fun j => j :: acc.getD j []]) []

def opdTmps : Opd → List Nat
  | .tmp t => [t]
  | .const _ => []

def opdOTmps : Option Opd → List Nat
  | some x => opdTmps x
  | none => []

def COp.tmps : COp → List Nat
  | .mov x | .box x | .nilCheck x | .not x | .field _ x | .extract x _ | .len x | .load _ _ x | .clear _ x => opdTmps x
  | .pick a b c => opdTmps a ++ opdTmps b ++ opdTmps c
  | .new _ => []
  | .build _ ps | .buildSlice _ _ _ ps => ps.flatMap fun p => opdTmps p.2.2
  | .conv _ x | .indexS _ x => opdTmps x
  | .shift _ x y | .indexA _ _ x y => opdTmps x ++ opdTmps y
  | .mm _ l => l.flatMap opdTmps
  | .mapNew => []
  | .mapLen m | .mapClear m => opdTmps m
  | .mapGet _ _ _ m x | .mapDel _ m x => opdTmps m ++ opdTmps x
  | .mapSet _ m x v => opdTmps m ++ opdTmps x ++ opdTmps v
  | .store _ x y | .bin _ x y | .eqv _ _ x y | .eqs _ _ x y | .eqb _ _ x y | .indexV _ x y | .makeSlice _ _ x y | .index _ x y | .append _ x y | .copy _ x y => opdTmps x ++ opdTmps y
  | .mkfunc _ l | .call _ l => l.flatMap opdTmps
  | .slice _ x a b c => opdTmps x ++ opdOTmps a ++ opdOTmps b ++ opdOTmps c
  | .callv g l | .callm g l _ | .invk _ g l _ => opdTmps g ++ l.flatMap opdTmps
  | .mkif _ x | .mkmeth _ x | .sortI x | .keysSorted _ x => opdTmps x

def CStmt.reads (s : CStmt) : List Nat := s.op.tmps ++ (match s.guard with | some (t, _) => [t] | none => [])

/-- Two operations of which one surely comes ahead of the other one. -/
def inOrder (an : List (List Nat)) (i j : Nat) : Bool := decide (i = j) || (an.getD j []).contains i || (an.getD i []).contains j

/-- The kinds within a region that draws its order: an append counts as a changing operation where it has its place among these. -/
def kindsIn (ss : List CStmt) (an : List (List Nat)) : List Nat :=
  ss.zipIdx.map fun (s, i) =>
    if kindOf s.op = 2 then (if ss.zipIdx.all fun (r, j) => kindOf r.op < 2 || inOrder an i j then 3 else 1) else kindOf s.op

/-- Behind how many of the changing operations one surely comes. -/
def lowOf (an : List (List Nat)) (ks : List Nat) (j : Nat) : Nat := ((an.getD j []).eraseDups.filter fun i => ks.getD i 0 == 3).length

/-- The changing operations, in their order. -/
def changing (ks : List Nat) : List Nat := (List.range ks.length).filter fun i => ks.getD i 0 == 3

/-- The phase at whose end an operation comes at the latest: how many changing operations do not wait for it, of the first ones. -/
def phaseOf (an : List (List Nat)) (ks : List Nat) (j : Nat) : Nat :=
  if ks.getD j 0 == 3 then ((changing ks).takeWhile fun m => decide (m ≠ j)).length
  else ((changing ks).takeWhile fun m => !(an.getD m []).contains j).length

/-- The numbers in the order of the clean machine. -/
def orderOf (an : List (List Nat)) (ks : List Nat) : List Nat :=
  (List.range ((changing ks).length + 1)).flatMap fun p =>
    ((List.range ks.length).filter fun j => phaseOf an ks j == p && ks.getD j 0 != 3) ++ ((List.range ks.length).filter fun j => phaseOf an ks j == p && ks.getD j 0 == 3)

def compD (ss : List CStmt) (an : List (List Nat)) (ks : List Nat) : List DStmt :=
  (orderOf an ks).map fun j => { s := ss.getD j default, no := j, kind := ks.getD j 0, low := lowOf an ks j }

/-- The list of what comes ahead is closed, and leads down. -/
def ancOk (ops : List Oper) (an : List (List Nat)) : Bool :=
  ops.zipIdx.all fun (o, j) => (an.getD j []).all fun i => (edgesOf o).any fun e => decide (e < j) && (decide (i = e) || (an.getD e []).contains i)

/-- What the clean machine asks of a region that draws its order. -/
def dOk (ops : List Oper) (ss : List CStmt) (an : List (List Nat)) (l : List DStmt) : Bool :=
  ancOk ops an && (ops.zipIdx.all fun (o, i) => (edgesOf o).all fun j => decide (j < i)) && decide (l.length = ops.length) && decide (ss.length = ops.length) &&
  (l.all fun d => decide (d.no < ops.length) && (d.kind == 0 || d.kind == 1 || d.kind == 3) && (d.kind != 0 || kindOf d.s.op == 0)) &&
  ((List.range ops.length).all fun j => l.any fun d => d.no == j && ss[j]?.any fun s => s.dst == d.s.dst) &&
  (l.zipIdx.all fun (d, q) => l.zipIdx.all fun (c, r) =>
    (decide (q = r) || d.no != c.no) &&
    (match c.s.dst with
     | none => true
     | some t => (decide (q = r) || d.s.dst != some t) && (!d.s.reads.contains t || (decide (r < q) && (an.getD d.no []).contains c.no) || (decide (q ≤ r) && (decide (q = r) || (an.getD c.no []).contains d.no)))) &&
    (!(c.kind == 3 && decide (r < q) && (d.kind == 3 || decide (((l.take r).filter fun x => x.kind == 3).length < d.low))) || (an.getD d.no []).contains c.no) &&
    (!(d.kind == 3 && c.kind != 3 && decide (r < q)) || (an.getD d.no []).contains c.no)) &&
  (l.zipIdx.all fun (d, q) => decide (d.low ≤ ((l.take q).filter fun x => x.kind == 3).length))

/-- The loops over functions in a function's code, those within their rounds left out. -/
def roundsIn : Code → List (Array Tmp × Code × Code)
  | .seq a b | .cond _ a b => roundsIn a ++ roundsIn b
  | .block _ c | .loop c | .scope c => roundsIn c
  | .rangeFunc _ ps a c => [(ps, a, c)]
  | _ => []

/-- The number of what a round begins with; that of its body is the next one. -/
def ridOf (f k : Nat) : Nat := (f * 16 + k) * 2

/-- 'f': the function that the code is of; 'top': the code is no round's; 'k': how many loops over functions come ahead. -/
def compCode (P : Program) (f n : Nat) (top : Bool) (k : Nat) : Code → Option CCode
  | .skip => some .skip
  | .region _ ops draw => (allSome (ops.toList.map (compStmt P n ops))).bind fun ss =>
      if draw then guardB (dOk ops.toList ss (ancs ops.toList) (compD ss (ancs ops.toList) (kindsIn ss (ancs ops.toList)))) (some (.dregion (compD ss (ancs ops.toList) (kindsIn ss (ancs ops.toList))))) else some (.region ss)
  | .seq a b => (compCode P f n top k a).bind fun a' => (compCode P f n top (k + (roundsIn a).length) b).map fun b => .seq a' b
  | .cond c a b => (opd c).bind fun c => (compCode P f n top k a).bind fun a' => (compCode P f n top (k + (roundsIn a).length) b).map fun b => .cond c a' b
  | .block id c => (compCode P f n top k c).map (.block id)
  | .loop c => (compCode P f n top k c).map .loop
  | .rangeFunc g ps _ _ => (opd g).bind fun g => guardB (top && decide (k < 16) && ps.toList.all fun t => decide (t < n)) (some (.rangeF g ps.toList n (ridOf f k)))
  | .exit id => some (.exit id)
  | .ret => some .ret
  | _ => none

def compRes (P : Program) : ResultVar → Option CRes
  | .tmp t => some (.tmp t)
  | .cell a t => (isAggT P t).bind fun g => (sizeT P t).map fun n => .cell a g n

/-- The parts of a range over a map. -/
structure MLoop where
  i : Nat
  ops : Array Oper
  out : Nat
  j : Nat
  ops2 : Array Oper
  more : Nat
  out2 : Nat
  nid : Nat
  k : Nat
  ops3 : Array Oper
  code : Code

def MLoop.of (l : MLoop) : Code :=
  .seq (.region l.i l.ops false) (.block l.out (.loop (.seq (.region l.j l.ops2 false) (.seq (.cond (.tmp l.more) .skip (.exit l.out2)) (.block l.nid (.seq (.region l.k l.ops3 false) l.code))))))

def mloop : Code → Option MLoop
  | .seq (.region i ops false) (.block out (.loop (.seq (.region j ops2 false) (.seq (.cond (.tmp more) .skip (.exit out2)) (.block nid (.seq (.region k ops3 false) code)))))) => some ⟨i, ops, out, j, ops2, more, out2, nid, k, ops3, code⟩
  | _ => none

/-- The operations of such a loop: 'range', 'next', whether there is more, the entry. -/
structure MOps where
  t : TypeId
  m : Operand
  it : Nat
  nx : Nat
  more : Nat
  pair : Nat

def mops (l : MLoop) : Option MOps :=
  match l.ops.back?, l.ops2.toList, l.ops3[0]? with
  | some r, [o1, o2], some e =>
    match r.op, o1.op, o2.op, e.op, r.dst, o1.dst, o2.dst, e.dst with
    | .range t m, .next (.tmp it1) false, .extract (.tmp nx1) 0, .entry (.tmp it2), some it, some nx, some more, some pair =>
      guardB (it1 == it && it2 == it && nx1 == nx && more == l.more && l.out2 == l.out && r.guard.isNone && o1.guard.isNone && o2.guard.isNone && e.guard.isNone && it != nx && it != more && it != pair && nx != more && nx != pair && more != pair) (some ⟨t, m, it, nx, more, pair⟩)
    | _, _, _, _, _, _, _, _ => none
  | _, _, _ => none

/-- The body of a function that ends with a range over a map, and what is behind it. 'live': the temporaries that are used on. -/
def compBody (P : Program) (f n : Nat) (live : List Nat) : Code → Option CCode
  | .seq a b =>
    match mloop a with
    | some l => (mops l).bind fun o => (mapT P o.t).bind fun _ => (opd o.m).bind fun m =>
        (allSome (l.ops.toList.dropLast.map (compStmt P n l.ops))).bind fun pre => (allSome (l.ops3.toList.tail.map (compStmt P n l.ops3))).bind fun as =>
        (compCode P f n false 0 l.code).bind fun c => (compCode P f n false 0 b).bind fun r =>
        guardB (decide (o.it < n) && decide (o.nx < n) && decide (o.more < n) && decide (o.pair < n))
          (some (.seq (.region pre) (.rangeM ⟨m, o.it, o.nx, o.more, o.pair, l.out, live⟩ (.block l.nid (.seq (.region as) c)) r)))
    | none => (compCode P f n false 0 a).bind fun a' => (compBody P f n live b).map fun b' => .seq a' b'
  | _ => none

/-- The temporaries of results. -/
def CRes.tmp' : CRes → Nat
  | .tmp t => t
  | .cell t _ _ => t

/-- What stands for functions of Go's library: a slice of integers that is sorted; a map's keys, sorted. -/
def isSort (fn : Func) : Bool := isNm fn.name "slices.Sort" 22
def isSorted (fn : Func) : Bool := isNm fn.name "slices.Sorted" 18
def isKeys (fn : Func) : Bool := isNm fn.name "maps.Keys" 34
def keysFn (P : Program) : Option Nat := (List.range P.funcs.size).find? fun g => match P.funcs[g]? with | some fn => isKeys fn | none => false
def primOf (P : Program) (fn : Func) : Option CFunc :=
  if isSort fn = true ∧ fn.body.isSome = true then some ⟨1, 0, .region [⟨none, none, .sortI (.tmp 0)⟩], []⟩
  else if isSorted fn = true ∧ fn.body.isSome = true then (keysFn P).map fun g => ⟨1, 0, .region [⟨some 1, none, .keysSorted g (.tmp 0)⟩], [.tmp 1]⟩
  else none

def compFunc (P : Program) (f : Nat) (fn : Func) : Option CFunc :=
  guardB (fn.name != "runtime.NumGoroutine")
    (fn.body.bind fun c => (allSome (fn.results.toList.map (compRes P))).bind fun rs =>
      match compCode P f fn.ntmps true 0 c with
      | some b => some ⟨fn.ntmps, 0, b, rs⟩
      | none => (compBody P f fn.ntmps (rs.map CRes.tmp') c).map fun b => ⟨fn.ntmps, 0, b, rs⟩)

/-- The loop over a function with a number: its function, and what it is. -/
def roundAt (P : Program) (z : Nat) : Option (Nat × Func × Array Tmp × Code × Code) :=
  (P.funcs[z / 2 / 16]?).bind fun fn => fn.body.bind fun c => ((roundsIn c)[z / 2 % 16]?).map fun r => (z / 2 / 16, fn, r)

def compRound (P : Program) (z : Nat) : Option CFunc :=
  (roundAt P z).bind fun r =>
    if z % 2 = 0 then (compCode P r.1 r.2.1.ntmps false 0 r.2.2.2.1).map fun c => ⟨r.2.1.ntmps, 1, c, []⟩
    else (compCode P r.1 r.2.1.ntmps false 0 r.2.2.2.2).map fun c => ⟨r.2.1.ntmps, 2, c, []⟩

def cprog (P : Program) : CProg := fun f => if f < RB then (P.funcs[f]?).bind fun fn => match primOf P fn with | some cf => some cf | none => compFunc P f fn else compRound P (f - RB)

end Go.Cs

/- How the clean machine's values and heap stand to the model's: the relation, and what loads, stores and new blocks do to it. -/
namespace Go.Cs
open Go Go.RowKit

/-- Where a block of the clean machine lies: the block, its first cell, the cells of an element, and how many cells the block has. -/
structure Tgt where
  c : Nat
  s : Nat
  esz : Nat
  size : Nat

abbrev Mu := Nat → Option Tgt

mutual
def V (μ : Mu) : CV → Value → Prop
  | .int k n, v => v = .int k n
  | .bool b, v => v = .bool b
  | .ptr b o, v => ∃ m, μ b = some m ∧ v = .pointer (some ⟨m.c, m.s + o, none⟩)
  | .nilPtr, v => v = .pointer none
  | .slice b o len cap e tail, v => ∃ m cap' off, μ b = some m ∧ m.esz = e ∧ v = .slice (some ⟨m.c, off, none⟩) len cap' ∧ len ≤ cap' ∧ (if tail = true then cap ≤ cap' else cap' = cap) ∧ (cap' = 0 ∨ off = m.s + o) ∧ off + cap' * m.esz ≤ m.size
  | .nilSlice, v => v = .slice none 0 0
  | .func f caps, v => ∃ vs, v = .func (.func f) #[] vs ∧ VL μ caps vs.toList
  | .nilFunc, v => v = .nilFunc
  | .mapv b, v => ∃ m, μ b = some m ∧ v = .map (some m.c)
  | .nilMap, v => v = .map none
  | .iface t x, v => ∃ u, v = .iface t u ∧ V μ x u
  | .nilIface, v => v = .nilIface
  | .meth name x, v => ∃ u, v = .func (.method name) #[u] #[] ∧ V μ x u
  | .yld b, v => ∃ m, μ b = some m ∧ v = .func (.yield m.c) #[] #[]
  | .agg cs, v => ∃ vs, v = .agg vs ∧ VL μ cs vs.toList
  | .tup cs, v => ∃ vs, v = .tuple vs ∧ VL μ cs vs.toList
def VL (μ : Mu) : List CV → List Value → Prop
  | [], vs => vs = []
  | c :: cs, vs => ∃ v rest, vs = v :: rest ∧ V μ c v ∧ VL μ cs rest
end

mutual
theorem V.mono {μ ν : Mu} (h : ∀ b m, μ b = some m → ν b = some m) : ∀ (c : CV) (v : Value), V μ c v → V ν c v
  | .int k n, v, e => by simpa [V] using e
  | .bool b, v, e => by simpa [V] using e
  | .ptr b o, v, e => by
    simp only [V] at e ⊢
    obtain ⟨m, hm, e⟩ := e
    exact ⟨m, h b m hm, e⟩
  | .nilPtr, v, e => by simpa [V] using e
  | .slice b o len cap z tail, v, e => by
    simp only [V] at e ⊢
    obtain ⟨m, c', off, hm, e⟩ := e
    exact ⟨m, c', off, h b m hm, e⟩
  | .nilSlice, v, e => by simpa [V] using e
  | .func f caps, v, e => by
    simp only [V] at e ⊢
    obtain ⟨vs, e, hl⟩ := e
    exact ⟨vs, e, VL.mono h caps _ hl⟩
  | .nilFunc, v, e => by simpa [V] using e
  | .mapv b, v, e => by
    simp only [V] at e ⊢
    obtain ⟨m, hm, e⟩ := e
    exact ⟨m, h b m hm, e⟩
  | .nilMap, v, e => by simpa [V] using e
  | .iface t x, v, e => by
    simp only [V] at e ⊢
    obtain ⟨u, e, hu⟩ := e
    exact ⟨u, e, V.mono h x u hu⟩
  | .nilIface, v, e => by simpa [V] using e
  | .meth name x, v, e => by
    simp only [V] at e ⊢
    obtain ⟨u, e, hu⟩ := e
    exact ⟨u, e, V.mono h x u hu⟩
  | .yld b, v, e => by
    simp only [V] at e ⊢
    obtain ⟨m, hm, e⟩ := e
    exact ⟨m, h b m hm, e⟩
  | .agg cs, v, e => by
    simp only [V] at e ⊢
    obtain ⟨vs, e, hl⟩ := e
    exact ⟨vs, e, VL.mono h cs _ hl⟩
  | .tup cs, v, e => by
    simp only [V] at e ⊢
    obtain ⟨vs, e, hl⟩ := e
    exact ⟨vs, e, VL.mono h cs _ hl⟩
theorem VL.mono {μ ν : Mu} (h : ∀ b m, μ b = some m → ν b = some m) : ∀ (cs : List CV) (vs : List Value), VL μ cs vs → VL ν cs vs
  | [], vs, e => by simpa [VL] using e
  | c :: cs, vs, e => by
    simp only [VL] at e ⊢
    obtain ⟨v, rest, e, hv, hl⟩ := e
    exact ⟨v, rest, e, V.mono h c v hv, VL.mono h cs rest hl⟩
end

theorem VL.length {μ : Mu} : ∀ {cs : List CV} {vs : List Value}, VL μ cs vs → vs.length = cs.length
  | [], _, e => by simp only [VL] at e; simp [e]
  | _ :: cs, _, e => by
    simp only [VL] at e
    obtain ⟨v, rest, rfl, _, hl⟩ := e
    simp [VL.length hl]

theorem VL.get {μ : Mu} : ∀ {cs : List CV} {vs : List Value}, VL μ cs vs → ∀ {i : Nat} {c : CV}, cs[i]? = some c → ∃ v, vs[i]? = some v ∧ V μ c v
  | [], _, _, i, c, h => by simp at h
  | c :: cs, _, e, i, d, h => by
    simp only [VL] at e
    obtain ⟨v, rest, rfl, hv, hl⟩ := e
    cases i with
    | zero => simp at h; subst h; exact ⟨v, rfl, hv⟩
    | succ i => simpa using VL.get hl (by simpa using h)

theorem VL.of_get {μ : Mu} : ∀ {cs : List CV} {vs : List Value}, vs.length = cs.length → (∀ (i : Nat) (c : CV), cs[i]? = some c → ∃ v, vs[i]? = some v ∧ V μ c v) → VL μ cs vs
  | [], vs, hl, _ => by simp only [VL]; exact List.length_eq_zero_iff.1 hl
  | c :: cs, vs, hl, h => by
    match vs, hl with
    | v :: rest, hl =>
      simp only [VL]
      refine ⟨v, rest, rfl, ?_, VL.of_get (by simpa using hl) fun i d hd => ?_⟩
      · obtain ⟨u, hu, hv⟩ := h 0 c rfl
        simp at hu; subst hu; exact hv
      · obtain ⟨u, hu, hv⟩ := h (i + 1) d (by simpa using hd)
        exact ⟨u, by simpa using hu, hv⟩

theorem VL.append {μ : Mu} {as bs : List CV} {xs ys : List Value} (h : VL μ as xs) (k : VL μ bs ys) : VL μ (as ++ bs) (xs ++ ys) := by
  induction as generalizing xs with
  | nil => simp only [VL] at h; subst h; exact k
  | cons a as ih =>
    simp only [VL] at h
    obtain ⟨v, rest, rfl, hv, hl⟩ := h
    simp only [List.cons_append, VL]
    exact ⟨v, rest ++ ys, rfl, hv, ih hl⟩

theorem VL.take {μ : Mu} {as : List CV} {xs : List Value} (h : VL μ as xs) (n : Nat) : VL μ (as.take n) (xs.take n) := by
  refine VL.of_get (by simp [h.length]) fun i c hc => ?_
  rw [List.getElem?_take] at hc ⊢
  split at hc
  · rename_i hi; obtain ⟨v, hv, hV⟩ := h.get hc; exact ⟨v, by rw [if_pos hi]; exact hv, hV⟩
  · cases hc

theorem VL.drop {μ : Mu} {as : List CV} {xs : List Value} (h : VL μ as xs) (n : Nat) : VL μ (as.drop n) (xs.drop n) := by
  refine VL.of_get (by simp [h.length]) fun i c hc => ?_
  rw [List.getElem?_drop] at hc ⊢
  exact h.get hc

theorem VL.splice {μ : Mu} {as bs : List CV} {xs ys : List Value} (h : VL μ as xs) (k : VL μ bs ys) (o : Nat) : VL μ (splice as o bs) (xs.take o ++ ys ++ xs.drop (o + ys.length)) := by
  unfold Cs.splice
  rw [k.length]
  exact ((h.take o).append k).append (h.drop _)

theorem V.cells {μ : Mu} {c : CV} {v : Value} (h : V μ c v) : VL μ (cellsOf c) v.cells.toList := by
  cases c <;> simp only [V] at h <;> try (obtain ⟨vs, rfl, hl⟩ := h; exact hl)
  all_goals
    simp only [cellsOf, VL]
    refine ⟨v, [], ?_, ?_, rfl⟩
    · first
      | (subst h; rfl)
      | (obtain ⟨m, _, rfl⟩ := h; rfl)
      | (obtain ⟨m, c', off, _, _, rfl, _⟩ := h; rfl)
      | (obtain ⟨vs, rfl, hl⟩ := h; rfl)
    · simpa only [V] using h

theorem V.leaf {μ : Mu} {c : CV} {v : Value} (h : V μ c v) (hl : leaf c = true) : v.oneCell' = true := by
  cases c <;> simp only [V] at h <;> first
    | (subst h; rfl)
    | (obtain ⟨m, _, rfl⟩ := h; rfl)
    | (obtain ⟨m, c', off, _, _, rfl, _⟩ := h; rfl)
    | (obtain ⟨vs, rfl, _⟩ := h; first | rfl | simp [Cs.leaf] at hl)

theorem VL.leaf {μ : Mu} {cs : List CV} {vs : List Value} (h : VL μ cs vs) (hl : cs.all Cs.leaf = true) : ∀ v ∈ vs, v.oneCell' = true := by
  induction cs generalizing vs with
  | nil => simp only [VL] at h; subst h; simp
  | cons c cs ih =>
    simp only [VL] at h
    obtain ⟨v, rest, rfl, hv, hr⟩ := h
    simp only [List.all_cons, Bool.and_eq_true] at hl
    intro u hu
    rcases List.mem_cons.1 hu with rfl | hu
    · exact hv.leaf hl.1
    · exact ih hr hl.2 u hu

theorem alloc_old' (w : World) (o : Obj) (i : Nat) (h : i < w.heap.size) : (w.alloc o).heap[i]? = w.heap[i]? := by
  show (w.heap.push o)[i]? = w.heap[i]?
  rw [Array.getElem?_push, if_neg (Nat.ne_of_lt h)]
theorem alloc_new' (w : World) (o : Obj) : (w.alloc o).heap[w.heap.size]? = some o := by
  show (w.heap.push o)[w.heap.size]? = some o
  simp

/-! ### The heap -/

/-- The entries of a map. -/
def MapR (μ : Mu) : List CV → List MapEntry → Prop
  | [], es => es = []
  | c :: cs, es => ∃ k n v e rest, c = .tup [.int k n, v] ∧ es = e :: rest ∧ e.key = .int k n ∧ V μ v e.val ∧ Cs.leaf v = true ∧ MapR μ cs rest

theorem MapR.mono {μ ν : Mu} (h : ∀ b m, μ b = some m → ν b = some m) : ∀ {cs : List CV} {es : List MapEntry}, MapR μ cs es → MapR ν cs es
  | [], es, e => e
  | c :: cs, es, e => by
    obtain ⟨k, n, v, x, rest, h1, h2, h3, h4, h5, h6⟩ := e
    exact ⟨k, n, v, x, rest, h1, h2, h3, V.mono h _ _ h4, h5, MapR.mono h h6⟩

/-- The world at the start, and what the loops over functions are: by a loop's number how many temporaries its function has, that function, and the loop's parts. -/
structure Bs extends World where
  rnd : Nat → Nat → Nat → Array Tmp → Code → Code → Prop
  frz : Nat → Obj → Prop

def StR (s : Int) (r : Loop) : Prop :=
  (s = 0 ∧ r.state = .ready ∧ r.pending = none) ∨ s = 1 ∨ (s = 2 ∧ r.state = .done ∧ r.pending = some .ret) ∨ ∃ id : Nat, s = id + 3 ∧ r.state = .done ∧ r.pending = some (.exit id)

/-- A loop over a function. -/
def LoopR (B : Bs) (μ : Mu) (blk : Blk) (r : Loop) : Prop :=
  ∃ s env z, blk = loopBlk s (r.params.toList.map fun (t : Nat) => CV.i (t : Int)) env z ∧ StR s r ∧ (∀ t, V μ (env.getD t .undef) (r.tmps.getD t undef)) ∧ env.length ≤ r.tmps.size ∧ B.rnd z env.length r.fn r.params r.assign r.body

theorem LoopR.mono {B : Bs} {μ ν : Mu} (h : ∀ b m, μ b = some m → ν b = some m) {blk : Blk} {r : Loop} (e : LoopR B μ blk r) : LoopR B ν blk r := by
  obtain ⟨s, env, z, h1, h2, h3, h4⟩ := e
  exact ⟨s, env, z, h1, h2, fun t => V.mono h _ _ (h3 t), h4⟩

/-- What is no row of cells: a map, or a loop over a function. 'c': where it lies. -/
def ObjR (B : Bs) (μ : Mu) (c : Nat) (blk : Blk) (ob : Obj) : Prop :=
  (blk.esz = 0 ∧ ∃ es cl, ob = .map es cl ∧ MapR μ (entCells blk.cells) es.toList ∧ MapKept.Stamped es cl ∧ (isFrz blk.cells = true → B.frz c ob)) ∨ ∃ r, ob = .loop r ∧ LoopR B μ blk r

theorem ObjR.mono {B : Bs} {μ ν : Mu} {c : Nat} (h : ∀ b m, μ b = some m → ν b = some m) {blk : Blk} {ob : Obj} (e : ObjR B μ c blk ob) : ObjR B ν c blk ob := by
  rcases e with ⟨h1, es, cl, h2, h3, h4⟩ | ⟨r, h1, h2⟩
  · exact .inl ⟨h1, es, cl, h2, h3.mono h, h4⟩
  · exact .inr ⟨r, h1, h2.mono h⟩

theorem ObjR.map {B : Bs} {μ : Mu} {c : Nat} {blk : Blk} {ob : Obj} (e : ObjR B μ c blk ob) (h : blk.esz = 0) : ∃ es cl, ob = .map es cl ∧ MapR μ (entCells blk.cells) es.toList ∧ MapKept.Stamped es cl ∧ (isFrz blk.cells = true → B.frz c ob) := by
  rcases e with ⟨_, h1⟩ | ⟨r, _, s, env, z, h1, _⟩
  · exact h1
  · rw [h1] at h; cases h

theorem ObjR.loop {B : Bs} {μ : Mu} {c : Nat} {blk : Blk} {ob : Obj} (e : ObjR B μ c blk ob) (h : blk.esz ≠ 0) : ∃ r, ob = .loop r ∧ LoopR B μ blk r := by
  rcases e with ⟨h1, _⟩ | h1
  · exact absurd h1 h
  · exact h1

theorem entCells_map {μ : Mu} {cs : List CV} {es : List MapEntry} (h : MapR μ cs es) : entCells cs = cs ∧ isFrz cs = false := by
  cases cs with
  | nil => exact ⟨rfl, rfl⟩
  | cons c l =>
    obtain ⟨k, n, v, e, rest, rfl, _⟩ := h
    exact ⟨by cases l <;> rfl, by cases l <;> rfl⟩

theorem MapR.objR {B : Bs} {μ : Mu} {c : Nat} {blk : Blk} {es : Array MapEntry} {cl : Nat} (h0 : blk.esz = 0) (h : MapR μ blk.cells es.toList ∧ MapKept.Stamped es cl) : ObjR B μ c blk (.map es cl) :=
  .inl ⟨h0, es, cl, rfl, by rw [(entCells_map h.1).1]; exact h.1, h.2, fun e => by rw [(entCells_map h.1).2] at e; cases e⟩

/-- 'B': the world at the start: what lay there is as it was. 'K': blocks that are to be left alone. -/
structure Sim (K : Nat → Option Obj) (B : Bs) (μ : Mu) (H : CHeap) (w : World) : Prop where
  base : Below B.heap.size B.toWorld w
  kept : ∀ c o, K c = some o → w.heap[c]? = some o
  blk : ∀ b blk m, H[b]? = some blk → blk.mode ≠ .dead → blk.mode ≠ .map → μ b = some m → ∃ arr T fz, w.heap[m.c]? = some (.cells arr T fz) ∧
    (∀ (i : Nat) (c : CV), blk.cells[i]? = some c → ∃ v, arr[m.s + i]? = some v ∧ V μ c v) ∧
    (blk.mode = .rw → m.esz = blk.esz ∧ arr.size = m.size ∧ ((blk.esz = 0 → m.s = 0) ∧ m.s + blk.cells.length ≤ m.size) ∧ fz = (0, 0) ∧ B.heap.size ≤ m.c ∧ K m.c = none) ∧
    (blk.mode = .ro → m.c < B.heap.size)
  inj : ∀ b1 b2 k1 k2 m1 m2, H[b1]? = some k1 → H[b2]? = some k2 → k1.mode = .rw ∨ k1.mode = .map → k2.mode ≠ .dead → b1 ≠ b2 → μ b1 = some m1 → μ b2 = some m2 → m1.c ≠ m2.c
  mp : ∀ b blk m, H[b]? = some blk → blk.mode = .map → μ b = some m → ∃ ob, w.heap[m.c]? = some ob ∧ ObjR B μ m.c blk ob ∧ B.heap.size ≤ m.c ∧ K m.c = none

/-- The relation asks nothing of blocks that are not there. -/
theorem Sim.congr {K : Nat → Option Obj} {B : Bs} {μ ν : Mu} {H : CHeap} {w : World} (h : Sim K B μ H w) (he : ∀ b, b < H.length → ν b = μ b) (hm : ∀ b m, μ b = some m → ν b = some m) : Sim K B ν H w := by
  have lt : ∀ {b : Nat} {k : Blk}, H[b]? = some k → b < H.length := fun e => (List.getElem?_eq_some_iff.1 e).1
  refine ⟨h.base, h.kept, fun b k m hb hd hd' hv => ?_, fun b1 b2 k1 k2 m1 m2 h1 h2 r1 r2 hne e1 e2 => ?_, fun b k m hb hd hv => ?_⟩
  rotate_left 2
  · rw [he b (lt hb)] at hv
    obtain ⟨ob, hw, hr, hB, hK⟩ := h.mp b k m hb hd hv
    exact ⟨ob, hw, hr.mono hm, hB, hK⟩
  · rw [he b (lt hb)] at hv
    obtain ⟨arr, T, fz, hw, hc, hr⟩ := h.blk b k m hb hd hd' hv
    exact ⟨arr, T, fz, hw, fun i c hi => let ⟨v, hv, hV⟩ := hc i c hi; ⟨v, hv, V.mono hm _ _ hV⟩, hr⟩
  · rw [he b1 (lt h1)] at e1
    rw [he b2 (lt h2)] at e2
    exact h.inj b1 b2 k1 k2 m1 m2 h1 h2 r1 r2 hne e1 e2

/-- A draw, or anything that leaves the heap and the streams as they are. -/
theorem Sim.same {K : Nat → Option Obj} {B : Bs} {μ : Mu} {H : CHeap} {w w' : World} (h : Sim K B μ H w) (hh : w'.heap = w.heap) (ho : w'.os = w.os) (ht : w'.tape = w.tape) (hu : w'.output = w.output) : Sim K B μ H w' :=
  ⟨⟨ho.trans h.base.os, ht.trans h.base.tape, hu.trans h.base.output, by rw [hh]; exact h.base.size, fun k hk => by rw [hh]; exact h.base.block k hk⟩,
    fun c o hc => by rw [hh]; exact h.kept c o hc, fun b k m hb hd hd' hv => by rw [hh]; exact h.blk b k m hb hd hd' hv, h.inj, fun b k m hb hd hv => by rw [hh]; exact h.mp b k m hb hd hv⟩

theorem Sim.load1 {K : Nat → Option Obj} {B : Bs} {μ : Mu} {H : CHeap} {w : World} (h : Sim K B μ H w) {b o : Nat} {c : CV} {m : Tgt} (hl : load1 H b o = some c) (hm : μ b = some m) :
    ∃ v, w.cell? ⟨m.c, m.s + o, none⟩ = some v ∧ V μ c v := by
  unfold Cs.load1 at hl
  split at hl
  · rename_i k hk
    split at hl
    · cases hl
    · rename_i hd
      obtain ⟨arr, T, fz, hw, hc, _⟩ := h.blk b k m hk (fun e => hd (.inl e)) (fun e => hd (.inr e)) hm
      obtain ⟨v, hv, hV⟩ := hc o c hl
      exact ⟨v, by simp [World.cell?, hw, hv], hV⟩
  · cases hl

theorem Sim.loadN {K : Nat → Option Obj} {B : Bs} {μ : Mu} {H : CHeap} {w : World} (h : Sim K B μ H w) {b o n : Nat} {cs : List CV} {m : Tgt} (hl : loadN H b o n = some cs) (hm : μ b = some m) :
    cs.length = n ∧ ∃ vs, VL μ cs vs ∧ ∀ j v, vs[j]? = some v → w.cell? ⟨m.c, m.s + o + j, none⟩ = some v := by
  unfold Cs.loadN at hl
  split at hl
  · rename_i k hk
    split at hl
    · cases hl
    · rename_i hd
      split at hl
      · rename_i hle
        simp only [Option.some.injEq] at hl
        subst hl
        obtain ⟨arr, T, fz, hw, hc, _⟩ := h.blk b k m hk (fun e => hd (.inl e)) (fun e => hd (.inr e)) hm
        have hlen : ((k.cells.drop o).take n).length = n := by simp; omega
        refine ⟨hlen, (List.range n).map (fun j => arr.getD (m.s + o + j) undef), ?_, ?_⟩
        · refine VL.of_get (by simp; omega) fun i c hi => ?_
          have hin : i < n := by have := (List.getElem?_eq_some_iff.1 hi).1; omega
          rw [List.getElem?_take, if_pos hin, List.getElem?_drop] at hi
          obtain ⟨v, hv, hV⟩ := hc _ c hi
          refine ⟨v, ?_, hV⟩
          simp only [List.getElem?_map, List.getElem?_range hin, Option.map_some]
          rw [Array.getD_eq_getD_getElem?, show m.s + o + i = m.s + (o + i) from by omega, hv]
          rfl
        · intro j v hv
          simp only [List.getElem?_map] at hv
          by_cases hj : j < n
          · rw [List.getElem?_range hj] at hv
            simp only [Option.map_some, Option.some.injEq] at hv
            have hx : k.cells[o + j]? = some (k.cells[o + j]'(by omega)) := List.getElem?_eq_getElem (by omega)
            obtain ⟨u, hu, _⟩ := hc _ _ hx
            rw [Array.getD_eq_getD_getElem?, show m.s + o + j = m.s + (o + j) from by omega, hu] at hv
            simp at hv
            subst hv
            simp [World.cell?, hw, show m.s + o + j = m.s + (o + j) from by omega, hu]
          · rw [List.getElem?_eq_none (by simp; omega)] at hv
            cases hv
      · cases hl
  · cases hl

theorem splice_length {l vs : List CV} {o : Nat} (h : o + vs.length ≤ l.length) : (splice l o vs).length = l.length := by
  simp [splice]; omega

/-- A row that has been written. -/
theorem Sim.write {K : Nat → Option Obj} {B : Bs} {μ : Mu} {H : CHeap} {w : World} (h : Sim K B μ H w) {b o : Nat} {cs : List CV} {vs : List Value} {H' : CHeap} {m : Tgt} (hs : storeN H b o cs = some H') (hm : μ b = some m) (hv : VL μ cs vs) :
    ∃ arr T, w.heap[m.c]? = some (.cells arr T (0, 0)) ∧ m.s + o + vs.length ≤ arr.size ∧ (∀ v ∈ vs, v.oneCell' = true) ∧
      Sim K B μ H' (w.setRow m.c (arr.toList.take (m.s + o) ++ vs ++ arr.toList.drop (m.s + o + vs.length)).toArray) ∧ H'.length = H.length := by
  unfold storeN at hs
  split at hs
  · rename_i k hk
    split at hs
    · rename_i hc
      obtain ⟨hrw, hle, hleaf⟩ := hc
      simp only [Option.some.injEq] at hs
      subst hs
      have hd : k.mode ≠ .dead := by rw [hrw]; decide
      obtain ⟨arr, T, fz, hw, hcell, hr, _⟩ := h.blk b k m hk hd (by rw [hrw]; decide) hm
      obtain ⟨he, hsz, hfits, rfl, hB, hK⟩ := hr hrw
      have hfit : m.s + o + vs.length ≤ arr.size := by rw [hv.length, hsz]; omega
      refine ⟨arr, T, hw, hfit, hv.leaf hleaf, ⟨?_, ?_, ?_, ?_, ?_⟩, by simp⟩
      · refine h.base.trans ⟨rfl, rfl, rfl, by simp, fun q hq => setRow_other w m.c q _ (by omega)⟩
      · intro c x hx
        have hne : c ≠ m.c := fun e => by rw [e, hK] at hx; cases hx
        rw [setRow_other w m.c c _ hne]
        exact h.kept c x hx
      · intro b' k' m' hb' hd' hd2 hm'
        by_cases hbb : b' = b
        · subst hbb
          rw [hm] at hm'
          simp only [Option.some.injEq] at hm'
          subst hm'
          have hlt : b' < H.length := (List.getElem?_eq_some_iff.1 hk).1
          rw [List.getElem?_set_self hlt] at hb'
          simp only [Option.some.injEq] at hb'
          subst hb'
          have hlen : (arr.toList.take (m.s + o) ++ vs ++ arr.toList.drop (m.s + o + vs.length)).length = arr.size := by simp; omega
          refine ⟨_, T, (0, 0), setRow_heap w m.c arr _ T (0, 0) hw, fun i c hi => ?_, fun _ => ⟨he, ?_, ?_, rfl, hB, hK⟩, fun e => by rw [hrw] at e; cases e⟩
          · dsimp only at hi
            rw [List.getElem?_toArray]
            unfold splice at hi
            have hol : o ≤ k.cells.length := by omega
            have hol2 : m.s + o ≤ arr.toList.length := by simp; omega
            by_cases h1 : i < o
            · rw [List.append_assoc, List.getElem?_append_left (by simp; omega), List.getElem?_take, if_pos h1] at hi
              rw [List.append_assoc, List.getElem?_append_left (by simp; omega), List.getElem?_take, if_pos (by omega)]
              obtain ⟨v, hv, hV⟩ := hcell i c hi
              exact ⟨v, by simpa using hv, hV⟩
            · by_cases h2 : i < o + cs.length
              · rw [List.append_assoc, List.getElem?_append_right (by simp; omega), List.getElem?_append_left (by simp; omega)] at hi
                rw [List.append_assoc, List.getElem?_append_right (by simp; omega), List.getElem?_append_left (by simp [hv.length]; omega)]
                obtain ⟨v, hv, hV⟩ := hv.get hi
                refine ⟨v, ?_, hV⟩
                rw [← hv]
                congr 1
                simp
                omega
              · rw [List.append_assoc, List.getElem?_append_right (by simp; omega), List.getElem?_append_right (by simp; omega), List.getElem?_drop] at hi
                rw [List.append_assoc, List.getElem?_append_right (by simp; omega), List.getElem?_append_right (by simp [hv.length]; omega), List.getElem?_drop]
                obtain ⟨v, hv', hV⟩ := hcell _ c hi
                refine ⟨v, ?_, hV⟩
                rw [Array.getElem?_toList, ← hv']
                congr 1
                simp [hv.length]
                omega
          · rw [List.size_toArray, hlen, hsz]
          · rw [splice_length hle]; exact hfits
        · rw [List.getElem?_set_ne (Ne.symm hbb)] at hb'
          obtain ⟨arr', T', fz', hw', hc', hr'⟩ := h.blk b' k' m' hb' hd' hd2 hm'
          have hne : m'.c ≠ m.c := Ne.symm (h.inj b b' k k' m m' hk hb' (.inl hrw) hd' (Ne.symm hbb) hm hm')
          exact ⟨arr', T', fz', by rw [setRow_other w m.c m'.c _ hne]; exact hw', hc', hr'⟩
      · intro b1 b2 k1 k2 m1 m2 h1 h2 r1 r2 hne e1 e2
        have get : ∀ {b' : Nat} {k' : Blk}, (H.set b { k with cells := splice k.cells o cs })[b']? = some k' → ∃ k'', H[b']? = some k'' ∧ k''.mode = k'.mode := by
          intro b' k' hb'
          by_cases hbb : b' = b
          · subst hbb
            rw [List.getElem?_set_self ((List.getElem?_eq_some_iff.1 hk).1)] at hb'
            simp only [Option.some.injEq] at hb'
            subst hb'
            exact ⟨k, hk, rfl⟩
          · rw [List.getElem?_set_ne (Ne.symm hbb)] at hb'
            exact ⟨k', hb', rfl⟩
        obtain ⟨q1, g1, f1⟩ := get h1
        obtain ⟨q2, g2, f2⟩ := get h2
        exact h.inj b1 b2 q1 q2 m1 m2 g1 g2 (by rw [f1]; exact r1) (f2 ▸ r2) hne e1 e2
      · intro b' k' m' hb' hd' hm'
        have hbb : b' ≠ b := by
          rintro rfl
          rw [List.getElem?_set_self ((List.getElem?_eq_some_iff.1 hk).1)] at hb'
          simp only [Option.some.injEq] at hb'
          subst hb'
          rw [hrw] at hd'; cases hd'
        rw [List.getElem?_set_ne (Ne.symm hbb)] at hb'
        obtain ⟨ob, hw', hr', hB', hK'⟩ := h.mp b' k' m' hb' hd' hm'
        have hne : m'.c ≠ m.c := Ne.symm (h.inj b b' k k' m m' hk hb' (.inl hrw) (by rw [hd']; decide) (Ne.symm hbb) hm hm')
        exact ⟨ob, by rw [setRow_other w m.c m'.c _ hne]; exact hw', hr', hB', hK'⟩
    · cases hs
  · cases hs

/-- A block that is made while the clean machine stands still is left alone till it catches up. -/
theorem Sim.alloc {K : Nat → Option Obj} {B : Bs} {μ : Mu} {H : CHeap} {w : World} (h : Sim K B μ H w) (o : Obj) : Sim (fun c => if c = w.heap.size then some o else K c) B μ H (w.alloc o) := by
  have old : ∀ {c : Nat}, c < w.heap.size → (w.alloc o).heap[c]? = w.heap[c]? := fun hc => alloc_old' w o _ hc
  refine ⟨h.base.alloc h.base.size o, fun c x hx => ?_, fun b k m hb hd hd' hm => ?_, h.inj, fun b k m hb hd hm => ?_⟩
  rotate_left 2
  · obtain ⟨ob, hw, hr, hB, hK⟩ := h.mp b k m hb hd hm
    have hlt := (Array.getElem?_eq_some_iff.1 hw).1
    exact ⟨ob, by rw [old hlt]; exact hw, hr, hB, by rw [if_neg (by omega)]; exact hK⟩
  · by_cases hc : c = w.heap.size
    · rw [if_pos hc] at hx
      simp only [Option.some.injEq] at hx
      subst hx; subst hc
      exact alloc_new' w _
    · rw [if_neg hc] at hx
      have := h.kept c x hx
      rw [old (Array.getElem?_eq_some_iff.1 this).1]
      exact this
  · obtain ⟨arr, T, fz, hw, hc, hr⟩ := h.blk b k m hb hd hd' hm
    have hlt := (Array.getElem?_eq_some_iff.1 hw).1
    exact ⟨arr, T, fz, by rw [old hlt]; exact hw, hc, fun e => by
      obtain ⟨a1, a2, a3, a4, a5, a6⟩ := hr.1 e
      exact ⟨a1, a2, a3, a4, a5, by rw [if_neg (by omega)]; exact a6⟩, hr.2⟩

def Mu.set (μ : Mu) (b : Nat) (m : Tgt) : Mu := fun k => if k = b then some m else μ k

theorem Mu.set_self (μ : Mu) (b : Nat) (m : Tgt) : μ.set b m b = some m := by simp [Mu.set]
theorem Mu.set_ne (μ : Mu) {b k : Nat} (m : Tgt) (h : k ≠ b) : μ.set b m k = μ k := by simp [Mu.set, h]

/-- The clean machine catches up with a block that lies there. -/
theorem Sim.adopt {K : Nat → Option Obj} {B : Bs} {μ : Mu} {H : CHeap} {w : World} (h : Sim K B μ H w) {c : Nat} {arr : Array Value} {T : TypeId} (hK : K c = some (.cells arr T)) (hB : B.heap.size ≤ c)
    {k : Blk} (hk : k.mode = .rw) {s : Nat} (hl : (k.esz = 0 → s = 0) ∧ s + k.cells.length ≤ arr.size) (hμ : μ H.length = some ⟨c, s, k.esz, arr.size⟩)
    (hv : ∀ (i : Nat) (x : CV), k.cells[i]? = some x → ∃ v, arr[s + i]? = some v ∧ V μ x v) :
    Sim (fun d => if d = c then none else K d) B μ (H ++ [k]) w := by
  have hw := h.kept c _ hK
  have get : ∀ {b : Nat} {q : Blk}, (H ++ [k])[b]? = some q → (b < H.length ∧ H[b]? = some q) ∨ (b = H.length ∧ q = k) := by
    intro b q hb
    rcases Nat.lt_trichotomy b H.length with hlt | heq | hgt
    · rw [List.getElem?_append_left hlt] at hb; exact .inl ⟨hlt, hb⟩
    · subst heq; rw [List.getElem?_concat_length] at hb; exact .inr ⟨rfl, by simpa using hb.symm⟩
    · rw [List.getElem?_eq_none (by simp; omega)] at hb; cases hb
  have far : ∀ {b : Nat} {q : Blk} {m : Tgt}, H[b]? = some q → q.mode = .rw ∨ q.mode = .map → μ b = some m → m.c ≠ c := by
    intro b q m hb hq hm e
    rcases hq with hq | hq
    case inr =>
      obtain ⟨_, _, _, _, this⟩ := h.mp b q m hb hq hm
      rw [e, hK] at this
      cases this
    obtain ⟨_, _, _, _, _, hr⟩ := h.blk b q m hb (by rw [hq]; decide) (by rw [hq]; decide) hm
    have := (hr.1 hq).2.2.2.2.2
    rw [e, hK] at this
    cases this
  refine ⟨h.base, fun d x hx => ?_, fun b q m hb hd hd' hm => ?_, fun b1 b2 k1 k2 m1 m2 h1 h2 r1 r2 hne e1 e2 => ?_, fun b q m hb hd hm => ?_⟩
  rotate_left 3
  · rcases get hb with ⟨_, hb⟩ | ⟨rfl, rfl⟩
    · obtain ⟨ob, hw', hr, hB', hK'⟩ := h.mp b q m hb hd hm
      exact ⟨ob, hw', hr, hB', by rw [if_neg (far hb (.inr hd) hm)]; exact hK'⟩
    · rw [hk] at hd; cases hd
  · split at hx
    · cases hx
    · exact h.kept d x hx
  · rcases get hb with ⟨_, hb⟩ | ⟨rfl, rfl⟩
    · obtain ⟨a, T', fz, hw', hc, hr⟩ := h.blk b q m hb hd hd' hm
      refine ⟨a, T', fz, hw', hc, fun e => ?_, hr.2⟩
      obtain ⟨a1, a2, a3, a4, a5, a6⟩ := hr.1 e
      exact ⟨a1, a2, a3, a4, a5, by rw [if_neg (far hb (.inl e) hm)]; exact a6⟩
    · rw [hμ] at hm
      simp only [Option.some.injEq] at hm
      subst hm
      refine ⟨arr, T, (0, 0), hw, fun i x hi => ?_, fun _ => ⟨rfl, rfl, hl, rfl, hB, by simp⟩, fun e => by rw [hk] at e; cases e⟩
      exact hv i x hi
  · rcases get h1 with ⟨_, h1⟩ | ⟨l1, q1⟩ <;> rcases get h2 with ⟨_, h2⟩ | ⟨l2, q2⟩
    · exact h.inj b1 b2 k1 k2 m1 m2 h1 h2 r1 r2 hne e1 e2
    · rw [l2, hμ] at e2; simp only [Option.some.injEq] at e2; subst e2
      exact far h1 r1 e1
    · rw [l1, hμ] at e1; simp only [Option.some.injEq] at e1; subst e1
      cases hmd : k2.mode with
      | rw => exact Ne.symm (far h2 (.inl hmd) e2)
      | map => exact Ne.symm (far h2 (.inr hmd) e2)
      | ro =>
        obtain ⟨_, _, _, _, _, hr2⟩ := h.blk b2 k2 m2 h2 r2 (by rw [hmd]; decide) e2
        have := hr2.2 hmd; dsimp only; omega
      | dead => exact absurd hmd r2
    · exact absurd (l1.trans l2.symm) hne

/-- A block that is used no more. -/
theorem Sim.kill {K : Nat → Option Obj} {B : Bs} {μ : Mu} {H : CHeap} {w : World} (h : Sim K B μ H w) {b : Nat} {k : Blk} (hb : H[b]? = some k) : Sim K B μ (H.set b { k with mode := .dead }) w := by
  have get : ∀ {b' : Nat} {k' : Blk}, (H.set b { k with mode := .dead })[b']? = some k' → k'.mode ≠ .dead → H[b']? = some k' := by
    intro b' k' hb' hd
    by_cases hbb : b' = b
    · subst hbb
      rw [List.getElem?_set_self ((List.getElem?_eq_some_iff.1 hb).1)] at hb'
      simp only [Option.some.injEq] at hb'
      subst hb'
      exact absurd rfl hd
    · rw [List.getElem?_set_ne (Ne.symm hbb)] at hb'
      exact hb'
  refine ⟨h.base, h.kept, fun b' k' m hb' hd hd' hm => h.blk b' k' m (get hb' hd) hd hd' hm, fun b1 b2 k1 k2 m1 m2 h1 h2 r1 r2 hne e1 e2 => ?_, fun b' k' m hb' hd hm => h.mp b' k' m (get hb' (by rw [hd]; decide)) hd hm⟩
  exact h.inj b1 b2 k1 k2 m1 m2 (get h1 (by rcases r1 with r1 | r1 <;> (rw [r1]; decide))) (get h2 r2) r1 r2 hne e1 e2

/-- A row of the model that belongs to a block that is now dead, or to nobody, is left alone; or it is taken over by a new block of the clean machine: what lies from its first cell on. -/
theorem Sim.own {K : Nat → Option Obj} {B : Bs} {μ : Mu} {H : CHeap} {w : World} (h : Sim K B μ H w) {b : Nat} {k : Blk} {m : Tgt} (hb : H[b]? = some k) (hrw : k.mode = .rw) (hm : μ b = some m) :
    ∃ arr T, w.heap[m.c]? = some (.cells arr T) ∧ arr.size = m.size ∧ m.esz = k.esz ∧ ((k.esz = 0 → m.s = 0) ∧ m.s + k.cells.length ≤ m.size) ∧ B.heap.size ≤ m.c ∧
      Sim (fun d => if d = m.c then some (.cells arr T) else K d) B μ (H.set b { k with mode := .dead }) w := by
  obtain ⟨arr, T, fz, hw, hc, hr⟩ := h.blk b k m hb (by rw [hrw]; decide) (by rw [hrw]; decide) hm
  obtain ⟨a1, a2, a3, rfl, a5, a6⟩ := hr.1 hrw
  refine ⟨arr, T, hw, a2, a1, a3, a5, ?_⟩
  have hk := h.kill hb
  refine ⟨hk.base, fun d x hx => ?_, fun b' k' m' hb' hd hd' hm' => ?_, hk.inj, fun b' k' m' hb' hd hm' => ?_⟩
  · split at hx
    · rename_i e; subst e; simp only [Option.some.injEq] at hx; subst hx; exact hw
    · exact hk.kept d x hx
  · obtain ⟨a, T', fz, hw', hc', hr'⟩ := hk.blk b' k' m' hb' hd hd' hm'
    refine ⟨a, T', fz, hw', hc', fun e => ?_, hr'.2⟩
    obtain ⟨c1, c2, c3, c4, c5, c6⟩ := hr'.1 e
    have hne : b ≠ b' := fun e' => by
      subst e'
      rw [List.getElem?_set_self ((List.getElem?_eq_some_iff.1 hb).1)] at hb'
      simp only [Option.some.injEq] at hb'
      subst hb'
      exact hd rfl
    rw [List.getElem?_set_ne hne] at hb'
    have := h.inj b b' k k' m m' hb hb' (.inl hrw) hd hne hm hm'
    exact ⟨c1, c2, c3, c4, c5, by rw [if_neg (Ne.symm this)]; exact c6⟩
  · obtain ⟨ob, hw', hr', hB', hK'⟩ := hk.mp b' k' m' hb' hd hm'
    have hne : b ≠ b' := fun e' => by
      subst e'
      rw [List.getElem?_set_self ((List.getElem?_eq_some_iff.1 hb).1)] at hb'
      simp only [Option.some.injEq] at hb'
      subst hb'
      cases hd
    rw [List.getElem?_set_ne hne] at hb'
    have := h.inj b b' k k' m m' hb hb' (.inl hrw) (by rw [hd]; decide) hne hm hm'
    exact ⟨ob, hw', hr', hB', by rw [if_neg (Ne.symm this)]; exact hK'⟩

/-- A new map, or loop. -/
theorem Sim.newObj {K : Nat → Option Obj} {B : Bs} {μ : Mu} {H : CHeap} {w : World} (h : Sim K B μ H w) {e z : Nat} (hμ : μ H.length = some ⟨w.heap.size, 0, e, z⟩) (hK : K w.heap.size = none) {k : Blk} (hk : k.mode = .map) {x : Obj} (hr : ObjR B μ w.heap.size k x) :
    Sim K B μ (H ++ [k]) (w.alloc x) := by
  have old : ∀ {c : Nat}, c < w.heap.size → (w.alloc x).heap[c]? = w.heap[c]? := fun hc => alloc_old' w _ _ hc
  have get : ∀ {b : Nat} {q : Blk}, (H ++ [k])[b]? = some q → (b < H.length ∧ H[b]? = some q) ∨ (b = H.length ∧ q = k) := by
    intro b q hb
    rcases Nat.lt_trichotomy b H.length with hlt | heq | hgt
    · rw [List.getElem?_append_left hlt] at hb; exact .inl ⟨hlt, hb⟩
    · subst heq; rw [List.getElem?_concat_length] at hb; exact .inr ⟨rfl, by simpa using hb.symm⟩
    · rw [List.getElem?_eq_none (by simp; omega)] at hb; cases hb
  have small : ∀ {b : Nat} {q : Blk} {m : Tgt}, H[b]? = some q → q.mode ≠ .dead → μ b = some m → m.c < w.heap.size := by
    intro b q m hb hd hm
    by_cases hq : q.mode = .map
    · obtain ⟨_, hw, _⟩ := h.mp b q m hb hq hm
      exact (Array.getElem?_eq_some_iff.1 hw).1
    · obtain ⟨_, _, _, hw, _⟩ := h.blk b q m hb hd hq hm
      exact (Array.getElem?_eq_some_iff.1 hw).1
  refine ⟨h.base.alloc h.base.size _, fun c y hx => ?_, fun b q m hb hd hd' hm => ?_, fun b1 b2 k1 k2 m1 m2 h1 h2 r1 r2 hne e1 e2 => ?_, fun b q m hb hd hm => ?_⟩
  · have := h.kept c y hx
    rw [old (Array.getElem?_eq_some_iff.1 this).1]; exact this
  · rcases get hb with ⟨_, hb⟩ | ⟨rfl, rfl⟩
    · obtain ⟨arr, T, fz, hw, hr⟩ := h.blk b q m hb hd hd' hm
      exact ⟨arr, T, fz, by rw [old (Array.getElem?_eq_some_iff.1 hw).1]; exact hw, hr⟩
    · exact absurd hk hd'
  · rcases get h1 with ⟨_, h1⟩ | ⟨l1, q1⟩ <;> rcases get h2 with ⟨_, h2⟩ | ⟨l2, q2⟩
    · exact h.inj b1 b2 k1 k2 m1 m2 h1 h2 r1 r2 hne e1 e2
    · rw [l2, hμ] at e2; simp only [Option.some.injEq] at e2; subst e2
      have := small h1 (by rcases r1 with r1 | r1 <;> (rw [r1]; decide)) e1
      dsimp only; omega
    · rw [l1, hμ] at e1; simp only [Option.some.injEq] at e1; subst e1
      have := small h2 r2 e2
      dsimp only; omega
    · exact absurd (l1.trans l2.symm) hne
  · rcases get hb with ⟨_, hb⟩ | ⟨rfl, rfl⟩
    · obtain ⟨ob, hw, hr⟩ := h.mp b q m hb hd hm
      exact ⟨ob, by rw [old (Array.getElem?_eq_some_iff.1 hw).1]; exact hw, hr⟩
    · rw [hμ] at hm; simp only [Option.some.injEq] at hm; subst hm
      exact ⟨x, alloc_new' w _, hr, h.base.size, hK⟩

/-- A map whose entries are others. -/
theorem Sim.setObj {K : Nat → Option Obj} {B : Bs} {μ : Mu} {H : CHeap} {w : World} (h : Sim K B μ H w) {b : Nat} {k : Blk} {m : Tgt} (hb : H[b]? = some k) (hk : k.mode = .map) (hm : μ b = some m)
    {k2 : Blk} (hk2 : k2.mode = .map) {x : Obj} (hr : ObjR B μ m.c k2 x) :
    Sim K B μ (H.set b k2) { w with heap := w.heap.setIfInBounds m.c x } := by
  obtain ⟨_, hw, _, hB, hK⟩ := h.mp b k m hb hk hm
  have hlt := (Array.getElem?_eq_some_iff.1 hw).1
  have hlb := (List.getElem?_eq_some_iff.1 hb).1
  have oth : ∀ {c : Nat}, c ≠ m.c → (w.heap.setIfInBounds m.c x)[c]? = w.heap[c]? := fun hc => by simp [Ne.symm hc]
  have get : ∀ {b' : Nat} {k' : Blk}, (H.set b k2)[b']? = some k' → ∃ k'', H[b']? = some k'' ∧ k''.mode = k'.mode ∧ (b' ≠ b → k'' = k') := by
    intro b' k' hb'
    by_cases hbb : b' = b
    · subst hbb
      rw [List.getElem?_set_self hlb] at hb'
      simp only [Option.some.injEq] at hb'
      subst hb'
      exact ⟨k, hb, by rw [hk, hk2], fun e => absurd rfl e⟩
    · rw [List.getElem?_set_ne (Ne.symm hbb)] at hb'
      exact ⟨k', hb', rfl, fun _ => rfl⟩
  refine ⟨h.base.trans ⟨rfl, rfl, rfl, by simp, fun q hq => oth (by omega)⟩, fun c y hx => ?_, fun b' q m' hb' hd hd' hm' => ?_, fun b1 b2 k1 k2 m1 m2 h1 h2 r1 r2 hne e1 e2 => ?_, fun b' q m' hb' hd hm' => ?_⟩
  · have hne : c ≠ m.c := fun e => by rw [e, hK] at hx; cases hx
    rw [oth hne]; exact h.kept c y hx
  · obtain ⟨q', g1, g2, g3⟩ := get hb'
    have hbb : b' ≠ b := fun e => by
      subst e
      rw [hb] at g1; simp only [Option.some.injEq] at g1; subst g1
      exact hd' (by rw [← g2]; exact hk)
    have := g3 hbb; subst this
    obtain ⟨arr, T, fz, hw', hr'⟩ := h.blk b' q' m' g1 hd hd' hm'
    exact ⟨arr, T, fz, by rw [oth (Ne.symm (h.inj b b' k q' m m' hb g1 (.inr hk) hd (Ne.symm hbb) hm hm'))]; exact hw', hr'⟩
  · obtain ⟨q1, g1, f1, _⟩ := get h1
    obtain ⟨q2, g2, f2, _⟩ := get h2
    exact h.inj b1 b2 q1 q2 m1 m2 g1 g2 (by rw [f1]; exact r1) (by rw [f2]; exact r2) hne e1 e2
  · obtain ⟨q', g1, g2, g3⟩ := get hb'
    by_cases hbb : b' = b
    · subst hbb
      rw [hm] at hm'; simp only [Option.some.injEq] at hm'; subst hm'
      rw [List.getElem?_set_self hlb] at hb'
      simp only [Option.some.injEq] at hb'
      subst hb'
      exact ⟨x, by simp [hlt], hr, hB, hK⟩
    · have := g3 hbb; subst this
      obtain ⟨ob, hw', hr'⟩ := h.mp b' q' m' g1 hd hm'
      exact ⟨ob, by rw [oth (Ne.symm (h.inj b b' k q' m m' hb g1 (.inr hk) (by rw [hd]; decide) (Ne.symm hbb) hm hm'))]; exact hw', hr'⟩

theorem Sim.there {K : Nat → Option Obj} {B : Bs} {μ : Mu} {H : CHeap} {w : World} (h : Sim K B μ H w) {b : Nat} {k : Blk} {m : Tgt} (hb : H[b]? = some k) (hd : k.mode ≠ .dead) (hm : μ b = some m) : m.c < w.heap.size := by
  by_cases hq : k.mode = .map
  · obtain ⟨_, hw, _⟩ := h.mp b k m hb hq hm
    exact (Array.getElem?_eq_some_iff.1 hw).1
  · obtain ⟨_, _, _, hw, _⟩ := h.blk b k m hb hd hq hm
    exact (Array.getElem?_eq_some_iff.1 hw).1
theorem Sim.loose {K : Nat → Option Obj} {B : Bs} {μ : Mu} {H : CHeap} {w : World} (h : Sim K B μ H w) {b : Nat} {k : Blk} {m : Tgt} (hb : H[b]? = some k) (hd : k.mode = .rw ∨ k.mode = .map) (hm : μ b = some m) : K m.c = none := by
  rcases hd with hd | hd
  · obtain ⟨_, _, _, _, _, hr, _⟩ := h.blk b k m hb (by rw [hd]; decide) (by rw [hd]; decide) hm
    exact (hr hd).2.2.2.2.2
  · obtain ⟨_, _, _, _, hK⟩ := h.mp b k m hb hd hm
    exact hK
/-- A block that both leave alone is none of the clean machine's. -/
theorem Sim.kept_ne {K : Nat → Option Obj} {B : Bs} {μ : Mu} {H : CHeap} {w : World} (h : Sim K B μ H w) {c : Nat} {o : Obj} (hc : K c = some o) (hB : B.heap.size ≤ c) {b : Nat} {k : Blk} {m : Tgt} (hb : H[b]? = some k) (hd : k.mode ≠ .dead) (hm : μ b = some m) : m.c ≠ c := by
  intro e
  cases hmd : k.mode with
  | rw => have := h.loose hb (.inl hmd) hm; rw [e, hc] at this; cases this
  | map => have := h.loose hb (.inr hmd) hm; rw [e, hc] at this; cases this
  | ro =>
    obtain ⟨_, _, _, _, _, _, hro⟩ := h.blk b k m hb hd (by rw [hmd]; decide) hm
    have := hro hmd; omega
  | dead => exact hd hmd

end Go.Cs

/- Each operation of the model does what the clean machine's does. -/
namespace Go.Cs
open Go Go.RowKit

theorem cvLeaf_V {ν : Mu} {v : Value} {c : CV} (h : cvLeaf v = some c) : V ν c v := by
  unfold cvLeaf at h
  split at h <;> first | (simp only [Option.some.injEq] at h; subst h; simp [V]) | cases h

theorem opd_V {ν : Mu} {E : Env} {a : Act} {x : Operand} {y : Opd} (h : opd x = some y) (hE : ∀ t ∈ opdTmps y, V ν (E t) (a.tmps.getD t undef)) : V ν (E.ev y) (a.eval x) := by
  cases x with
  | tmp t =>
    simp only [opd, Option.some.injEq] at h
    subst h
    exact hE t (by simp [opdTmps])
  | const v =>
    simp only [opd, Option.map_eq_some_iff] at h
    obtain ⟨c, hc, rfl⟩ := h
    exact cvLeaf_V hc
  | global g => cases h
  | func f =>
    simp only [opd, Option.some.injEq] at h
    subst h
    simp only [Env.ev, Act.eval, V]
    exact ⟨#[], rfl, by simp [VL]⟩

theorem allSome_length {α : Type} : ∀ {l : List (Option α)} {r : List α}, allSome l = some r → r.length = l.length
  | [], r, h => by simp only [allSome, Option.some.injEq] at h; subst h; rfl
  | none :: _, r, h => by cases h
  | some a :: l, r, h => by
    simp only [allSome, Option.map_eq_some_iff] at h
    obtain ⟨q, hq, rfl⟩ := h
    simp [allSome_length hq]

theorem allSome_get {α : Type} : ∀ {l : List (Option α)} {r : List α}, allSome l = some r → ∀ {i : Nat} {x : α}, r[i]? = some x → l[i]? = some (some x)
  | [], r, h, i, x, hx => by simp only [allSome, Option.some.injEq] at h; subst h; simp at hx
  | none :: _, r, h, _, _, _ => by cases h
  | some a :: l, r, h, i, x, hx => by
    simp only [allSome, Option.map_eq_some_iff] at h
    obtain ⟨q, hq, rfl⟩ := h
    cases i with
    | zero => simpa using hx
    | succ i => simpa using allSome_get hq (by simpa using hx)

theorem opds_VL {ν : Mu} {E : Env} {a : Act} {l : Array Operand} {r : List Opd} (h : opds l = some r) (hE : ∀ t ∈ r.flatMap opdTmps, V ν (E t) (a.tmps.getD t undef)) :
    VL ν (r.map E.ev) (l.map a.eval).toList := by
  unfold opds at h
  refine VL.of_get (by simp [allSome_length h]) fun i c hc => ?_
  rw [List.getElem?_map, Option.map_eq_some_iff] at hc
  obtain ⟨y, hy, rfl⟩ := hc
  have hx := allSome_get h hy
  rw [List.getElem?_map, Option.map_eq_some_iff] at hx
  obtain ⟨x, hx, hxy⟩ := hx
  refine ⟨a.eval x, by simp [Array.getElem?_toList] at hx ⊢; exact ⟨x, hx, rfl⟩, opd_V hxy fun t ht => hE t ?_⟩
  exact List.mem_flatMap.2 ⟨y, List.mem_of_getElem? hy, ht⟩

theorem zeroOf_V {P : Program} {t : TypeId} {z : List CV} (ν : Mu) (h : zeroOf P t = some z) : ∃ i v, P.info? t = some i ∧ i.zero = some v ∧ VL ν z v.cells.toList := by
  unfold zeroOf at h
  rw [Option.bind_eq_some_iff] at h
  obtain ⟨i, hi, h⟩ := h
  rw [Option.bind_eq_some_iff] at h
  obtain ⟨v, hv, h⟩ := h
  refine ⟨i, v, hi, hv, VL.of_get (by simp [allSome_length h]) fun j c hc => ?_⟩
  have hx := allSome_get h hc
  rw [List.getElem?_map, Option.map_eq_some_iff] at hx
  obtain ⟨x, hx, hxy⟩ := hx
  exact ⟨x, hx, cvLeaf_V hxy⟩

/-! ### Filling a value part by part -/

theorem fill_foldl (off : Nat) : ∀ (vs : List Value) (k : Nat) (cs : Array Value), off + k + vs.length ≤ cs.size →
    ((vs.zipIdx k).foldl (fun cs (c, j) => cs.setIfInBounds (off + j) c) cs).toList = cs.toList.take (off + k) ++ vs ++ cs.toList.drop (off + k + vs.length)
  | [], k, cs, _ => by simp
  | v :: vs, k, cs, h => by
    simp only [List.length_cons] at h
    rw [List.zipIdx_cons, List.foldl_cons, fill_foldl off vs (k + 1) _ (by simp; omega)]
    have e := list_seg_step cs.toList (off + k) v vs (by simp; omega)
    simpa [Array.toList_setIfInBounds, Nat.add_assoc] using e

theorem fill_V {ν : Mu} {place : Nat → Option (Nat × Nat)} : ∀ {ps : List (Nat × Value)} {qs : List (Nat × Nat × CV)} {cs zs : List CV} {arr : Array Value},
    qs.length = ps.length → (∀ (i : Nat) (q : Nat × Nat × CV), qs[i]? = some q → ∃ p, ps[i]? = some p ∧ place p.1 = some (q.1, q.2.1) ∧ V ν q.2.2 p.2) →
    VL ν cs arr.toList → fill cs qs = some zs → ∃ out, Instr.fill place arr ps = some out ∧ VL ν zs out.toList
  | [], [], cs, zs, arr, _, _, hv, hf => by
    simp only [fill, Option.some.injEq] at hf
    subst hf
    exact ⟨arr, rfl, hv⟩
  | p :: ps, q :: qs, cs, zs, arr, hl, h, hv, hf => by
    obtain ⟨off, size, c⟩ := q
    simp only [fill] at hf
    split at hf
    · rename_i hc
      obtain ⟨hc1, hc2⟩ := hc
      obtain ⟨p', hp', hpl, hV⟩ := h 0 _ rfl
      simp at hp'
      subst hp'
      obtain ⟨i, v⟩ := p
      dsimp only at hpl hV
      have hcl := hV.cells
      have hlen : v.cells.size = size := by have := hcl.length; simp at this; omega
      have hal : arr.size = cs.length := by have := hv.length; simpa using this
      simp only [Instr.fill, hpl]
      rw [if_neg (by simp; omega)]
      have hfold : (v.cells.zipIdx.foldl (fun cs x => cs.setIfInBounds (off + x.2) x.1) arr).toList = arr.toList.take off ++ v.cells.toList ++ arr.toList.drop (off + v.cells.toList.length) := by
        have := fill_foldl off v.cells.toList 0 arr (by simp; omega)
        simp only [Nat.add_zero] at this
        rw [← this, ← Array.foldl_toList, Array.toList_zipIdx]
      refine fill_V (by simpa using hl) (fun i q hq => by simpa using h (i + 1) q (by simpa using hq)) ?_ hf
      rw [hfold]
      exact hv.splice hcl off
    · cases hf
  | [], _ :: _, _, _, _, hl, _, _, _ => by simp at hl
  | _ :: _, [], _, _, _, hl, _, _, _ => by simp at hl

theorem compParts_V {P : Program} {ν : Mu} {E : Env} {a : Act} {place : Nat → Option (Nat × Nat)} {parts : Array (Nat × Operand)} {ps : List (Nat × Nat × Opd)} (h : compParts P place parts = some ps)
    (hE : ∀ t ∈ ps.flatMap (fun p => opdTmps p.2.2), V ν (E t) (a.tmps.getD t undef)) {cs zs : List CV} {arr : Array Value} (hv : VL ν cs arr.toList) (hf : fill cs (evParts E ps) = some zs) :
    ∃ out, Instr.fill place arr (parts.map fun x => (x.1, a.eval x.2)).toList = some out ∧ VL ν zs out.toList := by
  unfold compParts at h
  refine fill_V (by simp [evParts, allSome_length h]) (fun i q hq => ?_) hv hf
  simp only [evParts, List.getElem?_map, Option.map_eq_some_iff] at hq
  obtain ⟨y, hy, rfl⟩ := hq
  have hx := allSome_get h hy
  rw [List.getElem?_map, Option.map_eq_some_iff] at hx
  obtain ⟨x, hx, hxy⟩ := hx
  obtain ⟨j, x⟩ := x
  rw [Option.bind_eq_some_iff] at hxy
  obtain ⟨pl, hpl, hxy⟩ := hxy
  rw [Option.map_eq_some_iff] at hxy
  obtain ⟨z, hz, rfl⟩ := hxy
  refine ⟨(j, a.eval x), by simp [Array.getElem?_toList] at hx ⊢; exact ⟨_, _, hx, rfl, rfl⟩, hpl, opd_V hz fun t ht => hE t ?_⟩
  exact List.mem_flatMap.2 ⟨_, List.mem_of_getElem? hy, ht⟩

end Go.Cs

/- The operations that change nothing that exists. -/
namespace Go.Cs
open Go Go.RowKit

structure Streams (w w' : World) : Prop where
  os : w'.os = w.os
  tape : w'.tape = w.tape
  output : w'.output = w.output

theorem Streams.refl (w : World) : Streams w w := ⟨rfl, rfl, rfl⟩

/-- How many cells a new block has. -/
def sizeOfObj : Obj → Nat
  | .cells arr _ _ => arr.size
  | _ => 0

/-- What both have made, one block each. -/
def Fresh (ν : Mu) (blk : Blk) (m : Tgt) (x : Obj) : Prop :=
  (blk.mode = .rw ∧ m.s = 0 ∧ m.esz = blk.esz ∧ ∃ arr T, x = .cells arr T ∧ m.size = arr.size ∧ blk.cells.length ≤ arr.size ∧ ∀ (i : Nat) (c : CV), blk.cells[i]? = some c → ∃ v, arr[i]? = some v ∧ V ν c v) ∨
  (blk.mode = .map ∧ blk.esz = 0 ∧ ∃ es cl, x = .map es cl ∧ MapR ν blk.cells es.toList ∧ MapKept.Stamped es cl)

theorem Fresh.mono {ν ρ : Mu} (h : ∀ b m, ν b = some m → ρ b = some m) {blk : Blk} {m : Tgt} {x : Obj} (f : Fresh ν blk m x) : Fresh ρ blk m x := by
  rcases f with ⟨h1, h2, h3, arr, T, h4, h5, h6, h7⟩ | ⟨h1, h0, es, cl, h2, h3⟩
  · exact .inl ⟨h1, h2, h3, arr, T, h4, h5, h6, fun i c hc => let ⟨v, k1, k2⟩ := h7 i c hc; ⟨v, k1, V.mono h _ _ k2⟩⟩
  · exact .inr ⟨h1, h0, es, cl, h2, h3.1.mono h, h3.2⟩

theorem Fresh.mode {ν : Mu} {blk : Blk} {m : Tgt} {x : Obj} (f : Fresh ν blk m x) : blk.mode = .rw ∨ blk.mode = .map := by
  rcases f with ⟨h1, _⟩ | ⟨h1, _⟩
  · exact .inl h1
  · exact .inr h1

/-- What a steady operation of the clean machine says of the model's. -/
def MkR (P : Program) (s : Sem Next) (w : World) (m : Option Blk × (Nat → CV)) (ν : Mu) : Prop :=
  ∃ v' w', s.run P w = .ok (.value v') w' ∧ Streams w w' ∧
    match m.1 with
    | none => w'.heap = w.heap ∧ ∀ k, V ν (m.2 k) v'
    | some blk => ∃ x, w'.heap = w.heap.push x ∧ Fresh ν blk ⟨w.heap.size, 0, blk.esz, sizeOfObj x⟩ x ∧
        ∀ (ρ : Mu) (k : Nat), (∀ b m, ν b = some m → ρ b = some m) → ρ k = some ⟨w.heap.size, 0, blk.esz, sizeOfObj x⟩ → V ρ (m.2 k) v'

theorem MkR.stay {P : Program} {s : Sem Next} {w : World} {f : Nat → CV} {ν : Mu} {v' : Value} (h : s.run P w = .ok (.value v') w) (hv : ∀ k, V ν (f k) v') : MkR P s w (none, f) ν :=
  ⟨v', w, h, .refl w, rfl, hv⟩

theorem MkR.made {P : Program} {s : Sem Next} {w : World} {f : Nat → CV} {ν : Mu} {v' : Value} {cells : List CV} {esz : Nat} {arr : Array Value} {T : TypeId} (h : s.run P w = .ok (.value v') (w.alloc (.cells arr T)))
    (hc : VL ν cells arr.toList) (hv : ∀ (ρ : Mu) (k : Nat), (∀ b m, ν b = some m → ρ b = some m) → ρ k = some ⟨w.heap.size, 0, esz, arr.size⟩ → V ρ (f k) v') : MkR P s w (some ⟨cells, .rw, esz⟩, f) ν := by
  refine ⟨v', _, h, ⟨rfl, rfl, rfl⟩, .cells arr T, rfl, .inl ⟨rfl, rfl, rfl, arr, T, rfl, rfl, ?_, fun i x hi => ?_⟩, hv⟩
  · have := hc.length; simp at this; simp [this]
  · obtain ⟨v, hv, hV⟩ := hc.get hi; exact ⟨v, by simpa using hv, hV⟩

section
variable {P : Program} {ν : Mu} {E : Env} {a : Act} {w : World} {H : CHeap} {K : Nat → Option Obj} {B : Bs}

theorem isAggT_run {t : TypeId} {g : Bool} (h : isAggT P t = some g) : (isAgg t).run P w = .ok g w := by
  unfold isAggT at h
  rw [Option.map_eq_some_iff] at h
  obtain ⟨d, hd, rfl⟩ := h
  simp only [isAgg, Sem.run_bind, run_underlying hd, Result.andThen_ok]
  cases d <;> rfl

theorem sizeT_info {t : TypeId} {n : Nat} (h : sizeT P t = some n) : ∃ i, P.info? t = some i ∧ i.size = n := by
  unfold sizeT at h
  rw [Option.map_eq_some_iff] at h
  exact h

theorem sizeT_run {t : TypeId} {n : Nat} (h : sizeT P t = some n) : (sizeOf t).run P w = .ok n w := by
  obtain ⟨i, hi, rfl⟩ := sizeT_info h
  simp [sizeOf, typeInfo, hi]

theorem typeInfo_run {t : TypeId} {i : TypeInfo} (h : P.info? t = some i) : (typeInfo t).run P w = .ok i w := by simp [typeInfo, h]

theorem zeroValue_run {t : TypeId} {i : TypeInfo} {v : Value} (h : P.info? t = some i) (hz : i.zero = some v) : (zeroValue t).run P w = .ok v w := by simp [zeroValue, typeInfo, h, hz]

theorem sliceElem_und {t e : TypeId} (h : sliceElem P t = some e) : P.underlying t = some (.slice e) := by
  unfold sliceElem at h
  split at h
  · rename_i h'; simp only [Option.some.injEq] at h; subst h; exact h'
  · cases h

theorem guardB_some {α : Type} {b : Bool} {x : Option α} {r : α} (h : guardB b x = some r) : b = true ∧ x = some r := by
  unfold guardB at h
  split at h
  · exact ⟨by assumption, h⟩
  · cases h

/-- The value of a load. -/
theorem load_run (hS : Sim K B ν H w) {t : TypeId} {g : Bool} {n b o : Nat} (hg : isAggT P t = some g) (hn : sizeT P t = some n) {v : CV} (hl : (if g = true then (loadN H b o n).map .agg else load1 H b o) = some v) {m : Tgt} (hm : ν b = some m) :
    ∃ v', (loadVar t ⟨m.c, m.s + o, none⟩).run P w = .ok v' w ∧ V ν v v' := by
  simp only [loadVar, Sem.run_bind, isAggT_run hg, Result.andThen_ok]
  cases g with
  | true =>
    simp only [if_true, Option.map_eq_some_iff] at hl ⊢
    obtain ⟨cs, hcs, rfl⟩ := hl
    obtain ⟨hlen, vs, hvs, hcell⟩ := hS.loadN hcs hm
    have hvl : vs.length = n := by rw [hvs.length, hlen]
    have hr := run_loadCells_list (P := P) w ⟨m.c, m.s + o, none⟩ vs (fun j v hv => by rw [Addr.add_lit]; exact hcell j v hv)
    rw [hvl] at hr
    refine ⟨.agg vs.toArray, by simp [sizeT_run hn, hr], ?_⟩
    simp only [V]
    exact ⟨_, rfl, by simpa using hvs⟩
  | false =>
    simp only [Bool.false_eq_true, if_false] at hl ⊢
    obtain ⟨v', hv', hV⟩ := hS.load1 hl hm
    exact ⟨v', by simp [hv'], hV⟩

theorem sim_bin {op : BinOp} {t : TypeId} {x y : Operand} {k : IntKind} {p q : Int} {r : CV} (hx : a.eval x = .int k p) (hy : a.eval y = .int k q) (h : intOp op k p q = some r) :
    ∃ v', (do eqGuard op t x y (a.eval x) (a.eval y); binOp op t (a.eval x) (a.eval y) : Sem Value).run P w = .ok v' w ∧ V ν r v' := by
  rw [hx, hy]
  cases op <;> simp only [intOp] at h
  case quo =>
    split at h
    · cases h
    · rename_i h0; simp only [Option.some.injEq] at h; subst h; exact ⟨.int k (k.wrap (p.tdiv q)), by simp [binOp, eqGuard, Op.intDiv, h0], by simp [V]⟩
  case rem =>
    split at h
    · cases h
    · rename_i h0; simp only [Option.some.injEq] at h; subst h; exact ⟨.int k (p.tmod q), by simp [binOp, eqGuard, Op.intDiv, h0], by simp [V]⟩
  all_goals first
    | cases h; done
    | (simp only [Option.some.injEq] at h; subst h; refine ⟨_, by simp [binOp, eqGuard, Op.intArith, Op.intCmp, Op.intBits]; rfl, ?_⟩; simp [V])

theorem sim_shift {op : BinOp} {t : TypeId} {x y : Operand} {k k' : IntKind} {p q : Int} {r : CV} (hx : a.eval x = .int k p) (hy : a.eval y = .int k' q) (h : shiftOp op k p q = some r) :
    ∃ v', (do eqGuard op t x y (a.eval x) (a.eval y); binOp op t (a.eval x) (a.eval y) : Sem Value).run P w = .ok v' w ∧ V ν r v' := by
  rw [hx, hy]
  unfold shiftOp at h
  split at h
  · cases h
  · rename_i h0
    cases op <;> simp only [Option.some.injEq] at h <;> first
      | cases h; done
      | (subst h; refine ⟨_, by simp [binOp, eqGuard, Op.shift, h0]; rfl, ?_⟩; simp [V])

/-- The fields of a struct of integers, compared one by one. -/
theorem eqFields_run (d : Nat) (xs ys : Array Value) : ∀ (fs : List Field) (k : Nat) (cs ds : List CV) (r : Bool),
    (∀ i f, fs[i]? = some f → f.name ≠ "_" ∧ f.offset = k + i ∧ ∃ kd, P.underlying f.type = some (.int kd)) →
    VL ν cs (xs.toList.drop k) → VL ν ds (ys.toList.drop k) → cs.length = fs.length → eqCells cs ds = some r →
    (Op.eqFields (d + 1) xs ys fs).run P w = .ok r w
  | [], k, cs, ds, r, _, hx, hy, hl, he => by
    match cs, ds, hl, he with
    | [], [], _, he => simp only [eqCells, Option.some.injEq] at he; subst he; simp [Op.eqFields]
  | f :: fs, k, cs, ds, r, hf, hx, hy, hl, he => by
    obtain ⟨hname, hoff, hty⟩ := hf 0 f rfl
    simp only [Nat.add_zero] at hoff
    match cs, ds, hl with
    | c :: cs, [], _ => cases c <;> simp [eqCells] at he
    | c :: cs, e :: ds, hl =>
      have hx1 := hx
      have hy1 := hy
      simp only [VL] at hx1 hy1
      obtain ⟨v, xr, hxe, hxv, hxr⟩ := hx1
      obtain ⟨u, yr, hye, hyv, hyr⟩ := hy1
      have gx : xs[k]? = some v := by
        have : (xs.toList.drop k)[0]? = some v := by rw [hxe]; rfl
        simpa [List.getElem?_drop] using this
      have gy : ys[k]? = some u := by
        have : (ys.toList.drop k)[0]? = some u := by rw [hye]; rfl
        simpa [List.getElem?_drop] using this
      have dx : xs.toList.drop (k + 1) = xr := by rw [← List.drop_drop (i := 1) (j := k)] <;> simp [hxe, Nat.add_comm]
      have dy : ys.toList.drop (k + 1) = yr := by rw [← List.drop_drop (i := 1) (j := k)] <;> simp [hye, Nat.add_comm]
      have part : ∀ (zs : Array Value) (z : Value), zs[k]? = some z → (part f.type zs f.offset).run P w = .ok z w := by
        intro zs z hz
        have hna : (isAgg f.type).run P w = .ok false w := by
          obtain ⟨kd, h⟩ := hty; simp [isAgg, run_underlying h]
        simp only [Go.part, Sem.run_bind, hna, Result.andThen_ok, Bool.false_eq_true, if_false, hoff, hz, Sem.run_pure]
      have rest := fun r' (he' : eqCells cs ds = some r') => eqFields_run d xs ys fs (k + 1) cs ds r' (fun i g hg => by
        have := hf (i + 1) g (by simpa using hg)
        exact ⟨this.1, by omega, this.2.2⟩) (by rw [dx]; exact hxr) (by rw [dy]; exact hyr) (by simpa using hl) he'
      simp only [Op.eqFields, hname, ne_eq, not_false_eq_true, if_true, Sem.run_bind, part _ _ gx, part _ _ gy, Result.andThen_ok]
      cases c <;> cases e <;> simp only [eqCells] at he <;> try (cases he; done)
      · rename_i k1 p k2 q
        split at he
        · rename_i hk
          subst hk
          rw [Option.map_eq_some_iff] at he
          obtain ⟨r', he', hr⟩ := he
          simp only [V] at hxv hyv
          subst hxv; subst hyv
          obtain ⟨kd, h⟩ := hty
          rw [run_equalIn_int w d f.type k1 kd p q h]
          simp only [Result.andThen_ok]
          cases hpq : (p == q)
          · simp [hpq] at hr; subst hr; simp
          · simp [hpq] at hr; subst hr; simp [rest _ he']
        · cases he

/-- The elements of an array of bools, compared one by one. -/
theorem eqItems_run (d : Nat) {e : TypeId} (hb : P.underlying e = some .bool) (xs ys : Array Value) : ∀ (n k : Nat) (cs ds : List CV) (r : Bool),
    VL ν cs (xs.toList.drop k) → VL ν ds (ys.toList.drop k) → cs.length = n → eqBools cs ds = some r →
    (Op.eqItems (d + 1) e 1 xs ys (List.range' k n)).run P w = .ok r w
  | 0, k, cs, ds, r, hx, hy, hl, he => by
    match cs, ds, hl, he with
    | [], [], _, he => simp only [eqBools, Option.some.injEq] at he; subst he; simp [Op.eqItems]
  | n + 1, k, cs, ds, r, hx, hy, hl, he => by
    match cs, ds, hl with
    | c :: cs, [], _ => cases c <;> simp [eqBools] at he
    | c :: cs, g :: ds, hl =>
      have hx1 := hx
      have hy1 := hy
      simp only [VL] at hx1 hy1
      obtain ⟨v, xr, hxe, hxv, hxr⟩ := hx1
      obtain ⟨u, yr, hye, hyv, hyr⟩ := hy1
      have gx : xs[k]? = some v := by
        have : (xs.toList.drop k)[0]? = some v := by rw [hxe]; rfl
        simpa [List.getElem?_drop] using this
      have gy : ys[k]? = some u := by
        have : (ys.toList.drop k)[0]? = some u := by rw [hye]; rfl
        simpa [List.getElem?_drop] using this
      have dx : xs.toList.drop (k + 1) = xr := by rw [← List.drop_drop (i := 1) (j := k)] <;> simp [hxe, Nat.add_comm]
      have dy : ys.toList.drop (k + 1) = yr := by rw [← List.drop_drop (i := 1) (j := k)] <;> simp [hye, Nat.add_comm]
      have part : ∀ (zs : Array Value) (z : Value), zs[k]? = some z → (part e zs (k * 1)).run P w = .ok z w := by
        intro zs z hz
        have hna : (isAgg e).run P w = .ok false w := by simp [isAgg, run_underlying hb]
        simp only [Go.part, Sem.run_bind, hna, Result.andThen_ok, Bool.false_eq_true, if_false, Nat.mul_one, hz, Sem.run_pure]
      have rest := fun r' (he' : eqBools cs ds = some r') => eqItems_run d hb xs ys n (k + 1) cs ds r' (by rw [dx]; exact hxr) (by rw [dy]; exact hyr) (by simpa using hl) he'
      simp only [List.range'_succ, Op.eqItems, Sem.run_bind, part _ _ gx, part _ _ gy, Result.andThen_ok]
      cases c <;> cases g <;> simp only [eqBools] at he <;> try (cases he; done)
      · rename_i p q
        rw [Option.map_eq_some_iff] at he
        obtain ⟨r', he', hr⟩ := he
        simp only [V] at hxv hyv
        subst hxv; subst hyv
        rw [run_equalIn_bool w d e p q hb]
        simp only [Result.andThen_ok]
        cases hpq : (p == q)
        · simp [hpq] at hr; subst hr; simp
        · simp [hpq] at hr; subst hr; simp [rest _ he']

theorem sim_eqb {t e : TypeId} {n : Nat} {x y : Operand} {cs ds : List CV} {r : Bool} {vx vy : Value} (hu : P.underlying t = some (.array n e)) (hb : isBoolT P e = true) (hs : sizeT P e = some 1) (hg : P.eqGuardType P.depth t = false)
    (hx : V ν (.agg cs) vx) (hy : V ν (.agg ds) vy) (he : eqBools cs ds = some r) (hl : cs.length = n) :
    (eqGuard .eql t x y vx vy).run P w = .ok () w ∧ (eqGuard .neq t x y vx vy).run P w = .ok () w ∧
    (binOp .eql t vx vy).run P w = .ok (.bool r) w ∧ (binOp .neq t vx vy).run P w = .ok (.bool (!r)) w := by
  have hbu : P.underlying e = some .bool := by
    unfold isBoolT at hb
    split at hb
    · assumption
    · cases hb
  obtain ⟨i, hi, hsz⟩ := sizeT_info hs
  simp only [V] at hx hy
  obtain ⟨xs, rfl, hxs⟩ := hx
  obtain ⟨ys, rfl, hys⟩ := hy
  have hc : P.cellsOf e = 1 := by simp [Program.cellsOf, hi, hsz]
  have heq : (Op.equalIn 10000 t (.agg xs) (.agg ys)).run P w = .ok r w := by
    rw [show (10000 : Nat) = 9999 + 1 from rfl, run_equalIn_array w 9999 xs ys hu hi, hc, List.range_eq_range']
    exact eqItems_run 9998 hbu xs ys n 0 cs ds r (by simpa using hxs) (by simpa using hys) hl he
  exact ⟨run_eqGuard_agg w .eql t x y xs ys hg, run_eqGuard_agg w .neq t x y xs ys hg, by rw [run_eql_struct, heq]; rfl, by rw [run_neq_struct, heq]; rfl⟩

theorem flat_fields {t : TypeId} (h : flatStruct P t = true) : ∃ fs, P.underlying t = some (.struct fs) ∧ P.stoodInHeld t = false ∧ P.eqGuardType P.depth t = false ∧
    ∀ i f, fs.toList[i]? = some f → f.name ≠ "_" ∧ f.offset = 0 + i ∧ ∃ kd, P.underlying f.type = some (.int kd) := by
  unfold flatStruct at h
  split at h
  · rename_i fs hu
    simp only [Bool.and_eq_true, Bool.not_eq_true'] at h
    obtain ⟨⟨h1, h2⟩, h3⟩ := h
    refine ⟨fs, hu, h1, h2, fun i f hf => ?_⟩
    rw [List.all_eq_true] at h3
    have hm : (f, i) ∈ fs.toList.zipIdx := by
      rw [List.mem_iff_getElem?]
      exact ⟨i, by simp [List.getElem?_zipIdx, hf]⟩
    have := h3 _ hm
    simp only [Bool.and_eq_true, bne_iff_ne, ne_eq, beq_iff_eq] at this
    obtain ⟨⟨g1, g2⟩, g3⟩ := this
    refine ⟨g1, by omega, ?_⟩
    split at g3
    · rename_i kd hk; exact ⟨kd, hk⟩
    · cases g3
  · cases h

theorem sim_eqv_flat {t : TypeId} {x y : Operand} {cs ds : List CV} {r : Bool} {vx vy : Value} (hf : flatStruct P t = true) (hx : V ν (.agg cs) vx) (hy : V ν (.agg ds) vy) (he : eqCells cs ds = some r) (hl : ∃ fs, P.underlying t = some (.struct fs) ∧ cs.length = fs.size) :
    (eqGuard .eql t x y vx vy).run P w = .ok () w ∧ (eqGuard .neq t x y vx vy).run P w = .ok () w ∧
    (binOp .eql t vx vy).run P w = .ok (.bool r) w ∧ (binOp .neq t vx vy).run P w = .ok (.bool (!r)) w := by
  obtain ⟨fs, hu, h1, h2, h3⟩ := flat_fields hf
  simp only [V] at hx hy
  obtain ⟨xs, rfl, hxs⟩ := hx
  obtain ⟨ys, rfl, hys⟩ := hy
  obtain ⟨fs', hu', hlen⟩ := hl
  rw [hu] at hu'
  simp only [Option.some.injEq, TypeDesc.struct.injEq] at hu'
  subst hu'
  have hfo : P.fieldsOf t = fs := by simp [Program.fieldsOf, hu]
  have hrun := eqFields_run (P := P) (w := w) 9998 xs ys fs.toList 0 cs ds r h3 (by simpa using hxs) (by simpa using hys) (by simpa using hlen) he
  have heq : (Op.equalIn 10000 t (.agg xs) (.agg ys)).run P w = .ok r w := by
    rw [show (10000 : Nat) = 9999 + 1 from rfl, run_equalIn_agg w 9999 t xs ys (by rw [hfo]; exact hu) h1, hfo]
    exact hrun
  exact ⟨run_eqGuard_agg w .eql t x y xs ys h2, run_eqGuard_agg w .neq t x y xs ys h2, by rw [run_eql_struct, heq]; rfl, by rw [run_neq_struct, heq]; rfl⟩
end
end Go.Cs

/- Each steady operation: the model's run. -/
namespace Go.Cs
open Go Go.RowKit

theorem wrap_small {n : Int} (h : 0 ≤ n) (h' : n ≤ 16777216) : IntKind.i64.wrap n = n := by
  have e : n % (2 ^ 64 : Int) = n := by omega
  simp only [IntKind.wrap, IntKind.bits, IntKind.signed, e]
  split
  · rename_i hc; simp at hc; omega
  · rfl

section
variable {P : Program} {ν : Mu} {E : Env} {a : Act} {w : World} {H : CHeap} {K : Nat → Option Obj} {B : Bs}

theorem bound_run {x : Operand} {y : Opd} (h : opd x = some y) (hE : ∀ t ∈ opdTmps y, V ν (E t) (a.tmps.getD t undef)) {m m' r : Nat} {code : BoundsCode} (hb : bound E y m = some r) (hm : m ≤ m') :
    (Instr.sliceBound (a.eval x) m' code).run P w = .ok r w ∧ r ≤ m := by
  have hv := opd_V h hE
  unfold bound at hb
  split at hb
  · rename_i k i he
    split at hb
    · rename_i hc
      simp only [Option.some.injEq] at hb
      subst hb
      rw [he] at hv
      simp only [V] at hv
      rw [hv]
      have : 0 ≤ i ∧ i ≤ (m' : Int) := ⟨hc.1, by omega⟩
      exact ⟨by simp [Instr.sliceBound, asIntOf, this], by omega⟩
    · cases hb
  · cases hb

theorem opdO_cases {x : Option Operand} {y : Option Opd} (h : opdO x = some y) : (x = none ∧ y = none) ∨ ∃ p q, x = some p ∧ y = some q ∧ opd p = some q := by
  cases x with
  | none => simp only [opdO, Option.some.injEq] at h; exact .inl ⟨rfl, h.symm⟩
  | some p =>
    simp only [opdO, Option.map_eq_some_iff] at h
    obtain ⟨q, hq, rfl⟩ := h
    exact .inr ⟨p, q, rfl, rfl, hq⟩

theorem sliceBnds_run {lo hi mx : Option Operand} {lo' hi' mx' : Option Opd} {len cap cap' : Nat} {r : Nat × Nat × Nat} (hlo : opdO lo = some lo') (hhi : opdO hi = some hi') (hmx : opdO mx = some mx')
    (hE : ∀ t ∈ opdOTmps lo' ++ opdOTmps hi' ++ opdOTmps mx', V ν (E t) (a.tmps.getD t undef)) (hl : len ≤ cap) (hc : cap ≤ cap') (h : sliceBnds E len cap lo' hi' mx' = some r) :
    (Instr.sliceBounds true len cap' (lo.map a.eval) (hi.map a.eval) (mx.map a.eval)).run P w = .ok (r.1, r.2.1, if mx'.isSome then r.2.2 else cap') w ∧ r.1 ≤ r.2.1 ∧ r.2.1 ≤ r.2.2 ∧ r.2.2 ≤ cap ∧ (mx'.isSome = false → r.2.2 = cap) := by
  have El : ∀ q, lo' = some q → ∀ t ∈ opdTmps q, V ν (E t) (a.tmps.getD t undef) := fun q hq t ht => hE t (by simp [hq, opdOTmps, ht])
  have Eh : ∀ q, hi' = some q → ∀ t ∈ opdTmps q, V ν (E t) (a.tmps.getD t undef) := fun q hq t ht => hE t (by simp [hq, opdOTmps, ht])
  have Em : ∀ q, mx' = some q → ∀ t ∈ opdTmps q, V ν (E t) (a.tmps.getD t undef) := fun q hq t ht => hE t (by simp [hq, opdOTmps, ht])
  unfold sliceBnds at h
  split at h
  · cases h
  · rename_i hmh
    rw [Option.bind_eq_some_iff] at h
    obtain ⟨m, hm, h⟩ := h
    rw [Option.bind_eq_some_iff] at h
    obtain ⟨hh, hhh, h⟩ := h
    rw [Option.bind_eq_some_iff] at h
    obtain ⟨l, hll, h⟩ := h
    simp only [Option.some.injEq] at h
    subst h
    unfold Instr.sliceBounds
    rcases opdO_cases hmx with ⟨rfl, rfl⟩ | ⟨pm, qm, rfl, rfl, hpm⟩
    · simp only [boundO, Option.some.injEq] at hm
      subst hm
      rcases opdO_cases hhi with ⟨rfl, rfl⟩ | ⟨ph, qh, rfl, rfl, hph⟩
      · simp only [boundO, Option.some.injEq] at hhh
        subst hhh
        rcases opdO_cases hlo with ⟨rfl, rfl⟩ | ⟨pl, ql, rfl, rfl, hpl⟩
        · simp only [boundO, Option.some.injEq] at hll
          subst hll
          simp; omega
        · obtain ⟨r1, r2⟩ := bound_run (P := P) (w := w) (code := .sliceB) hpl (El _ rfl) hll (Nat.le_refl _)
          simp [r1]; omega
      · obtain ⟨h1, h2⟩ := bound_run (P := P) (w := w) (code := .sliceAcap) hph (Eh _ rfl) hhh hc
        rcases opdO_cases hlo with ⟨rfl, rfl⟩ | ⟨pl, ql, rfl, rfl, hpl⟩
        · simp only [boundO, Option.some.injEq] at hll
          subst hll
          simp [h1]; omega
        · obtain ⟨r1, r2⟩ := bound_run (P := P) (w := w) (code := .sliceB) hpl (El _ rfl) hll (Nat.le_refl _)
          simp [h1, r1]; omega
    · obtain ⟨m1, m2⟩ := bound_run (P := P) (w := w) (code := .slice3Acap) hpm (Em _ rfl) hm hc
      rcases opdO_cases hhi with ⟨rfl, rfl⟩ | ⟨ph, qh, rfl, rfl, hph⟩
      · simp at hmh
      · obtain ⟨h1, h2⟩ := bound_run (P := P) (w := w) (code := .slice3B) hph (Eh _ rfl) hhh (Nat.le_refl _)
        rcases opdO_cases hlo with ⟨rfl, rfl⟩ | ⟨pl, ql, rfl, rfl, hpl⟩
        · simp only [boundO, Option.some.injEq] at hll
          subst hll
          simp [m1, h1]; omega
        · obtain ⟨r1, r2⟩ := bound_run (P := P) (w := w) (code := .slice3C) hpl (El _ rfl) hll (Nat.le_refl _)
          simp [m1, h1, r1]; omega

theorem slice_run {t e : TypeId} {n : Nat} {x : Operand} {y : Opd} {lo hi mx : Option Operand} {lo' hi' mx' : Option Opd} {r : CV}
    (hu : P.underlying t = some (.slice e)) (hn : sizeT P e = some n) (hx : opd x = some y) (hlo : opdO lo = some lo') (hhi : opdO hi = some hi') (hmx : opdO mx = some mx')
    (hE : ∀ t ∈ COp.tmps (.slice n y lo' hi' mx'), V ν (E t) (a.tmps.getD t undef)) (h : sliceTo E n (E.ev y) lo' hi' mx' = some r) :
    ∃ v', (Instr.sliceAt t (a.eval x) (lo.map a.eval) (hi.map a.eval) (mx.map a.eval)).run P w = .ok v' w ∧ V ν r v' := by
  have hv := opd_V hx (fun t ht => hE t (by simp [COp.tmps, ht]))
  have hE' : ∀ t ∈ opdOTmps lo' ++ opdOTmps hi' ++ opdOTmps mx', V ν (E t) (a.tmps.getD t undef) := fun t ht => hE t (by simp [COp.tmps] at ht ⊢; rcases ht with h | h | h <;> simp [h])
  generalize E.ev y = cy at *
  unfold sliceTo at h
  simp only [Instr.sliceAt, Sem.run_bind, run_underlying hu, Result.andThen_ok, Instr.slice]
  split at h
  · simp only [V] at hv
    rw [hv]
    rw [Option.map_eq_some_iff] at h
    obtain ⟨q, hq, rfl⟩ := h
    obtain ⟨hr, h1, h2, h3, h4⟩ := sliceBnds_run (P := P) (w := w) (cap' := 0) hlo hhi hmx hE' (Nat.le_refl 0) (Nat.le_refl 0) hq
    have e1 : q.2.2 = 0 := by omega
    have e2 : q.2.1 = 0 := by omega
    have e3 : q.1 = 0 := by omega
    refine ⟨.slice none 0 0, ?_, by simp [V]⟩
    simp [hr, sizeT_run hn, e1, e2, e3]
  · rename_i b o len cap e' tail
    split at h
    · rename_i hlc
      obtain ⟨rfl, hlc⟩ := hlc
      rw [Option.map_eq_some_iff] at h
      obtain ⟨q, hq, rfl⟩ := h
      simp only [V] at hv
      obtain ⟨m, cap', off, hb, hez, he, hlen, htail, hoff, hfit⟩ := hv
      have hcc : cap ≤ cap' := by split at htail <;> omega
      obtain ⟨hr, h1, h2, h3, h4⟩ := sliceBnds_run (P := P) (w := w) hlo hhi hmx hE' hlc hcc hq
      rw [he]
      generalize hM : (if mx'.isSome = true then q.2.2 else cap') = M at hr
      have hMc : M ≤ cap' := by rw [← hM]; split <;> omega
      have hMh : q.2.1 ≤ M := by rw [← hM]; split <;> omega
      refine ⟨.slice (if M = q.1 then some ⟨m.c, off, none⟩ else some ((⟨m.c, off, none⟩ : Addr).add (q.1 * e'))) (q.2.1 - q.1) (M - q.1), by simp [hr, sizeT_run hn], ?_⟩
      simp only [V]
      rcases Nat.eq_or_lt_of_le (Nat.le_trans h1 hMh) with heq | hlt
      · refine ⟨m, 0, off, hb, hez, by rw [if_pos heq.symm, ← heq, Nat.sub_self], by omega, ?_, .inl rfl, ?_⟩
        · split
          · rename_i ht
            simp only [Bool.and_eq_true, Option.isNone_iff_eq_none] at ht
            have : mx'.isSome = false := by simp [ht.2]
            rw [this] at hM
            simp at hM
            have := h4 this
            omega
          · rename_i ht
            cases hmx' : mx'.isSome with
            | true => rw [hmx'] at hM; simp at hM; omega
            | false =>
              rw [hmx'] at hM
              simp at hM
              have := h4 hmx'
              omega
        · have : 0 ≤ cap' * m.esz := Nat.zero_le _
          omega
      · have hcap0 : 0 < cap' := by omega
        have hoff' : off = m.s + o := by rcases hoff with h | h <;> omega
        refine ⟨m, M - q.1, off + q.1 * e', hb, hez, by rw [if_neg (by omega)]; simp [Addr.add_lit], by omega, ?_, .inr (by rw [hoff']; omega), ?_⟩
        · split
          · rename_i ht
            simp only [Bool.and_eq_true, Option.isNone_iff_eq_none] at ht
            have hf : mx'.isSome = false := by simp [ht.2]
            have := h4 hf
            rw [hf] at hM
            simp at hM
            omega
          · rename_i ht
            cases hmx' : mx'.isSome with
            | true => rw [hmx'] at hM; simp at hM; omega
            | false =>
              rw [hmx'] at hM
              simp at hM
              have h5 := h4 hmx'
              have : tail = false := by
                cases tail
                · rfl
                · simp at ht; simp [ht] at hmx'
              subst this
              simp at htail
              omega
        · rw [hez] at hfit ⊢
          have : q.1 * e' + (M - q.1) * e' = M * e' := by rw [← Nat.add_mul]; congr 1; omega
          have h6 : M * e' ≤ cap' * e' := Nat.mul_le_mul_right _ hMc
          omega
    · cases h
  · cases h
end
end Go.Cs

/- Appending that makes a new block, and all steady operations together. -/
namespace Go.Cs
open Go Go.RowKit

theorem nextslicecap_le {need old : Nat} (h : old < need) : Builtin.nextslicecap need old ≤ 2 * need + 1024 := by
  unfold Builtin.nextslicecap
  split
  · omega
  · split
    · omega
    · rw [growBy_four]
      repeat' split
      all_goals omega

theorem run_value {P : Program} {w w' : World} {s : Sem Value} {v : Value} (h : s.run P w = .ok v w') : (do pure (.value (← s)) : Sem Next).run P w = .ok (.value v) w' := by simp [h]

section
variable {P : Program} {ν : Mu} {E : Env} {a : Act} {w : World} {H : CHeap} {K : Nat → Option Obj} {B : Bs}

/-- What 'append' of the compiler asks of the types. -/
structure AppT (P : Program) (t u : TypeId) (n : Nat) (e : TypeId) (i : TypeInfo) (z : Value) : Prop where
  ht : P.underlying t = some (.slice e)
  hu : ∃ e', P.underlying u = some (.slice e')
  hi : P.info? e = some i
  hz : i.zero = some z
  hn : i.size = n
  hzl : z.cells.size = n
  hb : i.bytes ≤ 4096
  hpos : 0 < n

theorem append_grow {t u ty e : TypeId} {n : Nat} {i : TypeInfo} {z : Value} (hT : AppT P t u n e i z) {base : Option Addr} {sLen sCap : Nat} {x : Value} {k : Nat} {old new : Array Value} (hx : (Builtin.lenOf x).run P w = .ok k w)
    (hgrow : sCap < sLen + k) (hmax : sLen + k ≤ maxEls) (hold : ∀ w', w'.heap = w.heap → (Builtin.firstCells n sLen (.slice base sLen sCap)).run P w' = .ok old w')
    (hnew : ∀ w', w'.heap = w.heap → (Builtin.firstCells n k x).run P w' = .ok new w') (hos : old.size = sLen * n) (hns : new.size = k * n) :
    ∃ cap' rest, (Builtin.append_ #[t, u] ty #[.slice base sLen sCap, x]).run P w = .ok (.slice (some ⟨w.heap.size, 0, none⟩) (sLen + k) cap') (w.drew.alloc (.cells (old ++ new ++ rest) e)) ∧
      sLen + k ≤ cap' ∧ (old ++ new ++ rest).size = cap' * n := by
  obtain ⟨e', hu⟩ := hT.hu
  have hd : ∀ w', w'.heap = w.heap → (Builtin.firstCells n sLen (.slice base sLen sCap)).run P w' = .ok old w' := hold
  have h1 := hold w.drew rfl
  have h2 := hnew w.drew rfl
  have hcap := nextslicecap_le hgrow
  have hbig : ¬ (Builtin.nextslicecap (sLen + k) sCap * i.bytes > 2 ^ 48) := by
    have : Builtin.nextslicecap (sLen + k) sCap * i.bytes ≤ (2 * (sLen + k) + 1024) * 4096 := Nat.mul_le_mul hcap hT.hb
    simp only [maxEls] at hmax
    omega
  have hmx : ¬ ((IntKind.i64.max : Int) < (sLen : Int) + (k : Int)) := by
    have : IntKind.i64.max = 9223372036854775807 := by decide
    simp only [maxEls] at hmax
    omega
  refine ⟨sLen + k + w.tape w.drawn (.appendCap (sLen + k) sCap e) % (2 ^ 63 - (sLen + k)), Builtin.zeroCells z.cells (sLen + k + w.tape w.drawn (.appendCap (sLen + k) sCap e) % (2 ^ 63 - (sLen + k)) - (sLen + k)), ?_, by omega, ?_⟩
  · have hng : ¬ (sLen + k ≤ sCap) := by omega
    simp [Builtin.append_, run_underlying hT.ht, run_underlying hu, sizeOf, typeInfo, hT.hi, hx, hng, hmx, hT.hn, Question.forced, Question.cut, h1, h2, zeroValue, hT.hz, hbig]
    rw [if_neg (by simp only [maxEls] at hmax; omega)]
    simp [newRow]
    all_goals rfl
  · simp only [Array.size_append, hos, hns, size_zeroCells, hT.hzl, ← Nat.add_mul]
    congr 1
    omega

theorem lenOf_run {c : CV} {v : Value} (h : V ν c v) {esz : Nat} {q : Nat × List CV} (he : elems H esz c = some q) : (Builtin.lenOf v).run P w = .ok q.1 w := by
  unfold elems at he
  split at he
  · simp only [Option.some.injEq] at he; subst he
    simp only [V] at h; subst h; simp [Builtin.lenOf]
  · simp only [V] at h
    obtain ⟨m, c', off, hb, _, rfl, _⟩ := h
    split at he
    · rename_i h0; simp only [Option.some.injEq] at he; subst he; subst h0; simp [Builtin.lenOf]
    · rw [Option.map_eq_some_iff] at he
      obtain ⟨cs, _, rfl⟩ := he
      simp [Builtin.lenOf]
  · cases he

/-- The elements of a slice, as the model reads them. -/
theorem elems_run (hS : Sim K B ν H w) {c : CV} {v : Value} (h : V ν c v) {esz : Nat} {q : Nat × List CV} (he : elems H esz c = some q) :
    ∃ new : Array Value, VL ν q.2 new.toList ∧ new.size = q.1 * esz ∧ ∀ w', w'.heap = w.heap → (Builtin.firstCells esz q.1 v).run P w' = .ok new w' := by
  unfold elems at he
  split at he
  · simp only [Option.some.injEq] at he; subst he
    simp only [V] at h; subst h
    exact ⟨#[], by simp [VL], by simp, fun w' _ => run_firstCells_none w' _ _ _ _⟩
  · simp only [V] at h
    obtain ⟨m, c', off, hb, _, rfl, hl, _, ho, _⟩ := h
    split at he
    · rename_i h0; simp only [Option.some.injEq] at he; subst he; subst h0
      refine ⟨#[], by simp [VL], by simp, fun w' _ => ?_⟩
      exact run_firstCells_some w' esz 0 _ _ _ [] (by simp) (by simp)
    · rename_i h0
      rw [Option.map_eq_some_iff] at he
      obtain ⟨cs, hcs, rfl⟩ := he
      obtain ⟨hlen, vs, hvs, hcell⟩ := hS.loadN hcs hb
      have hoff := ho.resolve_left (by omega)
      refine ⟨vs.toArray, by simpa using hvs, by simp [hvs.length, hlen], fun w' hw' => ?_⟩
      refine run_firstCells_some w' esz _ _ _ _ vs (by rw [hvs.length, hlen]) fun j u hu => ?_
      rw [Addr.add_lit, hoff]
      have := hcell j u hu
      simp only [World.cell?] at this ⊢
      rw [hw']
      exact this
  · cases he

theorem appendMk_run (hS : Sim K B ν H w) {t u ty e : TypeId} {n : Nat} {i : TypeInfo} {z : Value} (hT : AppT P t u n e i z) {s x : CV} {sv xv : Value} (hs : V ν s sv) (hx : V ν x xv) {q : Nat × List CV} (he : elems H n x = some q)
    {m : Option Blk × (Nat → CV)} (h : appendMk H n s q.1 q.2 = some m) : MkR P (do pure (.value (← Builtin.append_ #[t, u] ty #[sv, xv]))) w m ν := by
  have hlen := lenOf_run (P := P) (w := w) hx he
  obtain ⟨new, hnv, hns, hnew⟩ := elems_run (P := P) hS hx he
  obtain ⟨e', hu⟩ := hT.hu
  have stay : ∀ (base : Option Addr) (l c : Nat), q.1 = 0 → sv = .slice base l c → l ≤ c → (Builtin.append_ #[t, u] ty #[sv, xv]).run P w = .ok sv w := by
    intro base l c h0 hsv hlc
    have hn0 := hnew w rfl
    rw [h0] at hn0
    have hnz : new = #[] := by rw [h0] at hns; simp at hns; exact hns
    rw [hnz] at hn0
    cases base <;> simp [Builtin.append_, run_underlying hT.ht, run_underlying hu, sizeOf, typeInfo, hT.hi, hlen, h0, hsv, hlc, hT.hn, hn0, storeCells]
  unfold appendMk at h
  split at h
  · simp only [V] at hs
    split at h
    · rename_i h0
      simp only [Option.some.injEq] at h; subst h
      refine MkR.stay (v' := sv) ?_ (fun _ => by simp only [V]; exact hs)
      simp [stay none 0 0 h0 hs (Nat.le_refl 0)]
    · rename_i h0
      split at h
      · rename_i hmax
        simp only [Option.some.injEq] at h; subst h
        subst hs
        obtain ⟨cap', rest, hr, hge, hsz⟩ := append_grow (P := P) (w := w) (ty := ty) (base := none) (sLen := 0) (sCap := 0) (old := #[]) hT hlen (by omega) (by omega) (fun w' _ => run_firstCells_none w' _ _ _ _) hnew (by simp) hns
        refine ⟨_, _, run_value hr, ⟨rfl, rfl, rfl⟩, .cells _ e, rfl, .inl ⟨rfl, rfl, rfl, _, e, rfl, rfl, ?_, fun j c hj => ?_⟩, fun ρ k hρ hk => ?_⟩
        · dsimp only
          rw [hsz]
          have := hnv.length
          simp at this
          rw [← this, hns]
          exact Nat.mul_le_mul_right _ (by omega)
        · obtain ⟨v, hv, hV⟩ := hnv.get hj
          refine ⟨v, ?_, hV⟩
          have hjl : j < new.size := by have := (List.getElem?_eq_some_iff.1 hv).1; simpa using this
          simp only [Array.empty_append]
          rw [Array.getElem?_append_left hjl]
          simpa using hv
        · simp only [V]
          refine ⟨_, cap', 0, hk, rfl, by simp, by omega, by simp; omega, .inr (by simp), ?_⟩
          dsimp only [sizeOfObj]
          rw [hsz]
          omega
      · cases h
  · rename_i b o len cap ez tail
    simp only [V] at hs
    obtain ⟨mm, cap', off, hb, hez, hsv, hl, htail, hoff, hfit⟩ := hs
    split at h
    · rename_i h0
      simp only [Option.some.injEq] at h; subst h
      refine MkR.stay (v' := sv) ?_ (fun _ => by simp only [V]; exact ⟨mm, cap', off, hb, hez, hsv, hl, htail, hoff, hfit⟩)
      simp [stay _ _ _ h0 hsv hl]
    · rename_i h0
      split at h
      · rename_i hc
        obtain ⟨rfl, hcl, hmax⟩ := hc
        simp only [Bool.false_eq_true, if_false] at htail
        subst htail
        rw [Option.map_eq_some_iff] at h
        obtain ⟨oldc, hold, rfl⟩ := h
        have : ∃ old : Array Value, VL ν oldc old.toList ∧ old.size = len * n ∧ ∀ w', w'.heap = w.heap → (Builtin.firstCells n len sv).run P w' = .ok old w' := by
          have he' : elems H n (.slice b o len cap' ez false) = some (len, oldc) := by
            unfold elems
            dsimp only
            split at hold
            · rename_i h00
              simp only [Option.some.injEq] at hold; subst hold; subst h00
              rfl
            · rename_i h00
              rw [if_neg h00, hold]; rfl
          exact elems_run (P := P) hS (by simp only [V]; exact ⟨mm, cap', off, hb, hez, hsv, hl, by simp, hoff, hfit⟩) he'
        obtain ⟨old, hov, hos, holdr⟩ := this
        rw [hsv] at holdr ⊢
        obtain ⟨cap2, rest, hr, hge, hsz⟩ := append_grow (P := P) (w := w) (ty := ty) hT hlen hcl hmax holdr hnew hos hns
        refine ⟨_, _, run_value hr, ⟨rfl, rfl, rfl⟩, .cells _ e, rfl, .inl ⟨rfl, rfl, rfl, _, e, rfl, rfl, ?_, fun j c hj => ?_⟩, fun ρ k hρ hk => ?_⟩
        · dsimp only
          rw [hsz, List.length_append, ← hov.length, ← hnv.length]
          simp only [Array.length_toList, hos, hns, ← Nat.add_mul]
          exact Nat.mul_le_mul_right _ hge
        · obtain ⟨v, hv, hV⟩ := (hov.append hnv).get hj
          refine ⟨v, ?_, hV⟩
          have hjl : j < (old ++ new).size := by have := (List.getElem?_eq_some_iff.1 hv).1; simpa using this
          rw [Array.getElem?_append_left hjl, ← Array.getElem?_toList, Array.toList_append]
          exact hv
        · simp only [V]
          refine ⟨_, cap2, 0, hk, rfl, by simp, hge, by simp; exact hge, .inr (by simp), ?_⟩
          dsimp only [sizeOfObj]
          rw [hsz]
          omega
      · cases h
  · cases h
end
end Go.Cs

/- Maps. -/
namespace Go.Cs
open Go Go.RowKit
section
variable {P : Program} {ν : Mu} {E : Env} {a : Act} {w : World} {H : CHeap} {K : Nat → Option Obj} {B : Bs}

theorem mapT_und {t : TypeId} {q : IntKind × CV} (h : mapT P t = some q) : ∃ k e i v, P.underlying t = some (.map k e) ∧ P.underlying k = some (.int q.1) ∧ P.info? e = some i ∧ i.zero = some v ∧ cvLeaf v = some q.2 := by
  unfold mapT at h
  split at h
  · rename_i k e hu
    split at h
    · rename_i kd v hk hz
      rw [Option.map_eq_some_iff] at h
      obtain ⟨z, hz', rfl⟩ := h
      rw [Option.bind_eq_some_iff] at hz
      obtain ⟨i, hi, hv⟩ := hz
      exact ⟨k, e, i, v, hu, hk, hi, hv, hz'⟩
    · cases h
  · cases h

theorem MapR.length : ∀ {cs : List CV} {es : List MapEntry}, MapR ν cs es → es.length = cs.length
  | [], es, e => by simp only [MapR] at e; subst e; rfl
  | c :: cs, es, e => by
    obtain ⟨k, n, v, x, rest, rfl, rfl, h3, h4, h5, h6⟩ := e
    simp [MapR.length h6]

theorem mfind_run {kd : IntKind} {n : Int} : ∀ {cs : List CV} {es : List MapEntry} {i : Nat} {r : Option (Nat × CV)}, MapR ν cs es → mfind kd n cs i = some r →
    match r with
    | none => Instr.findNow (.int kd) (.int kd n) es i = some none
    | some (j, v) => ∃ u, Instr.findNow (.int kd) (.int kd n) es i = some (some (j, u)) ∧ V ν v u ∧ i ≤ j ∧ ∃ x, es[j - i]? = some x ∧ x.key = .int kd n
  | [], es, i, r, hr, h => by
    simp only [MapR] at hr
    subst hr
    simp only [mfind, Option.some.injEq] at h
    subst h
    rfl
  | c :: cs, es, i, r, hr, h => by
    obtain ⟨k, m, v, x, rest, rfl, rfl, h3, h4, h5, h6⟩ := hr
    simp only [mfind] at h
    split at h
    · rename_i hk
      subst hk
      split at h
      · rename_i he
        simp only [Option.some.injEq] at h
        subst h
        have hnm : n = m := by simpa using he
        refine ⟨x.val, ?_, h4, Nat.le_refl _, x, by simp, by rw [h3, hnm]⟩
        simp [Instr.findNow, h3, Instr.sameNow, he]
      · rename_i he
        have he' : (n == m) = false := by simpa using he
        have ih := mfind_run h6 h
        have step : Instr.findNow (.int kd) (.int kd n) (x :: rest) i = Instr.findNow (.int kd) (.int kd n) rest (i + 1) := by
          simp [Instr.findNow, h3, Instr.sameNow, he']
        cases r with
        | none => simp only at ih ⊢; rw [step, ih]
        | some p =>
          obtain ⟨j, v'⟩ := p
          simp only at ih ⊢
          obtain ⟨u, e1, e2, e3, y, e4, e5⟩ := ih
          refine ⟨u, by rw [step, e1], e2, by omega, y, ?_, e5⟩
          rw [show j - i = (j - (i + 1)) + 1 from by omega]
          simpa using e4
    · cases h

theorem mfind_none {kd : IntKind} {n : Int} : ∀ {cs : List CV} {es : List MapEntry} {i : Nat}, MapR ν cs es → mfind kd n cs i = some none → ∀ x ∈ es, x.key ≠ .int kd n
  | [], es, i, hr, h => by simp only [MapR] at hr; subst hr; simp
  | c :: cs, es, i, hr, h => by
    obtain ⟨k, m, v, x, rest, rfl, rfl, h3, h4, h5, h6⟩ := hr
    simp only [mfind] at h
    split at h
    · rename_i hk
      split at h
      · cases h
      · rename_i he
        intro y hy
        rcases List.mem_cons.1 hy with rfl | hy
        · rw [h3]
          intro e
          simp only [Value.int.injEq] at e
          exact he (by simp [e.2])
        · exact mfind_none h6 h y hy
    · cases h

theorem entries_run (hS : Sim K B ν H w) {c : CV} {v : Value} (h : V ν c v) {es : List CV} (he : entriesOf H c = some es) :
    (v = .map none ∧ es = []) ∨ ∃ b m k xs cl, c = .mapv b ∧ ν b = some m ∧ H[b]? = some k ∧ (k.mode = .map ∧ k.esz = 0) ∧ entCells k.cells = es ∧ v = .map (some m.c) ∧ w.heap[m.c]? = some (.map xs cl) ∧ MapR ν es xs.toList ∧ MapKept.Stamped xs cl := by
  unfold entriesOf at he
  split at he
  · simp only [V] at h
    simp only [Option.some.injEq] at he
    exact .inl ⟨h, he.symm⟩
  · rename_i b
    simp only [V] at h
    obtain ⟨m, hm, rfl⟩ := h
    split at he
    · rename_i k hk
      split at he
      · rename_i hd
        simp only [Option.some.injEq] at he
        obtain ⟨ob, hw, hob, _⟩ := hS.mp b k m hk hd.1 hm
        obtain ⟨xs, cl, rfl, hr, hst, -⟩ := hob.map hd.2
        exact .inr ⟨b, m, k, xs, cl, rfl, hm, hk, hd, he, rfl, hw, by rw [← he]; exact hr, hst⟩
      · cases he
    · cases he
  · cases he

theorem mapLen_run (hS : Sim K B ν H w) {c : CV} {v : Value} (h : V ν c v) {es : List CV} (he : entriesOf H c = some es) {t k e ty : TypeId} (hu : P.underlying t = some (.map k e)) :
    (Builtin.len_ #[t] ty #[v]).run P w = .ok (.int .i64 es.length) w := by
  rcases entries_run hS h he with ⟨rfl, rfl⟩ | ⟨b, m, q, xs, cl, rfl, hm, hq, hd, hes, rfl, hw, hr, -⟩
  · simp [Builtin.len_, run_underlying hu, goInt]
  · have hl : xs.size = es.length := by simpa using hr.length
    simp [Builtin.len_, run_underlying hu, MapKept.run_getObj_map hw, goInt, hl]

theorem mapGet_run (hS : Sim K B ν H w) {c x : CV} {v u : Value} (h : V ν c v) (hx : V ν x u) {t : TypeId} {q : IntKind × CV} (hq : mapT P t = some q) {ok : Bool} {r : CV} (hr : mapGetOf H ok q.1 q.2 c x = some r) :
    ∃ v', (Instr.lookup t v u ok).run P w = .ok v' w ∧ V ν r v' := by
  obtain ⟨kt, e, i, z, hu, hk, hi, hz, hzl⟩ := mapT_und hq
  unfold mapGetOf at hr
  split at hr
  · rename_i k' n
    split at hr
    · rename_i hkk
      subst hkk
      rw [Option.bind_eq_some_iff] at hr
      obtain ⟨es, hes, hr⟩ := hr
      rw [Option.map_eq_some_iff] at hr
      obtain ⟨f, hf, hr⟩ := hr
      simp only [V] at hx
      subst hx
      have ck : ∀ b, (Instr.checkKey b 10000 kt (.int q.1 n)).run P w = .ok () w := fun b => MapKept.run_checkKey hk (by simp [MapKept.IsKey]) b 9999
      have main : ∀ xs : Array MapEntry, MapR ν es xs.toList → (∀ s : Array MapEntry → Sem Value, True) →
          ∃ v', (do
            Instr.checkKey xs.isEmpty 10000 kt (.int q.1 n)
            let (v, ok') ← match ← Instr.findKey kt (.int q.1 n) xs.toList with
              | some (_, v) => pure (v, true)
              | none => pure (← zeroValue e, false)
            pure (if ok then .tuple #[v, .bool ok'] else v) : Sem Value).run P w = .ok v' w ∧ V ν r v' := by
        intro xs hR _
        have hfr := mfind_run hR hf
        cases f with
        | none =>
          simp only at hfr hr
          have hfk := MapKept.run_findKey (w := w) hk hfr
          have hzV : V ν q.2 z := cvLeaf_V hzl
          cases ok with
          | true =>
            simp only [if_true] at hr
            subst hr
            exact ⟨.tuple #[z, .bool false], by simp [ck, hfk, zeroValue_run hi hz], by simp [V, VL, hzV]⟩
          | false =>
            simp only [Bool.false_eq_true, if_false] at hr
            subst hr
            exact ⟨z, by simp [ck, hfk, zeroValue_run hi hz], hzV⟩
        | some p =>
          obtain ⟨j, vv⟩ := p
          simp only at hfr hr
          obtain ⟨uu, hfr, hV, _⟩ := hfr
          have hfk := MapKept.run_findKey (w := w) hk hfr
          cases ok with
          | true =>
            simp only [if_true] at hr
            subst hr
            exact ⟨.tuple #[uu, .bool true], by simp [ck, hfk], by simp [V, VL, hV]⟩
          | false =>
            simp only [Bool.false_eq_true, if_false] at hr
            subst hr
            exact ⟨uu, by simp [ck, hfk], hV⟩
      rcases entries_run hS h hes with ⟨rfl, rfl⟩ | ⟨b, m, kk, xs, cl, rfl, hm, hq', hd, hes', rfl, hw, hR, -⟩
      · obtain ⟨v', h1, h2⟩ := main #[] rfl (fun _ => trivial)
        refine ⟨v', ?_, h2⟩
        simp only [Instr.lookup, Sem.run_bind, run_underlying hu, Result.andThen_ok, Sem.run_pure] at h1 ⊢
        exact h1
      · obtain ⟨v', h1, h2⟩ := main xs hR (fun _ => trivial)
        refine ⟨v', ?_, h2⟩
        simp only [Instr.lookup, Sem.run_bind, run_underlying hu, Result.andThen_ok, Sem.run_pure, MapKept.run_getObj_map hw] at h1 ⊢
        exact h1
    · cases hr
  · cases hr

theorem MapR.modify {k : IntKind} {n : Int} {y : CV} {f : MapEntry → MapEntry} (hf : ∀ e, (f e).key = .int k n ∧ V ν y (f e).val) (hy : Cs.leaf y = true) :
    ∀ {cs : List CV} {es : List MapEntry} {i : Nat}, MapR ν cs es → i < cs.length → MapR ν (cs.set i (.tup [.int k n, y])) (es.modify i f)
  | [], _, _, _, h => by simp at h
  | c :: cs, es, i, hr, h => by
    obtain ⟨k', m, v, x, rest, rfl, rfl, h3, h4, h5, h6⟩ := hr
    cases i with
    | zero => exact ⟨k, n, y, f x, rest, rfl, by simp, (hf x).1, (hf x).2, hy, h6⟩
    | succ i => exact ⟨k', m, v, x, rest.modify i f, rfl, by simp, h3, h4, h5, MapR.modify hf hy h6 (by simpa using h)⟩
theorem MapR.push {k : IntKind} {n : Int} {y : CV} {e : MapEntry} (hk : e.key = .int k n) (hv : V ν y e.val) (hy : Cs.leaf y = true) :
    ∀ {cs : List CV} {es : List MapEntry}, MapR ν cs es → MapR ν (cs ++ [.tup [.int k n, y]]) (es ++ [e])
  | [], es, hr => by simp only [MapR] at hr; subst hr; exact ⟨k, n, y, e, [], rfl, rfl, hk, hv, hy, rfl⟩
  | c :: cs, es, hr => by
    obtain ⟨k', m, v, x, rest, rfl, rfl, h3, h4, h5, h6⟩ := hr
    exact ⟨k', m, v, x, rest ++ [e], rfl, rfl, h3, h4, h5, MapR.push hk hv hy h6⟩
theorem MapR.erase : ∀ {cs : List CV} {es : List MapEntry} (i : Nat), MapR ν cs es → MapR ν (cs.eraseIdx i) (es.eraseIdx i)
  | [], es, i, hr => by simp only [MapR] at hr; subst hr; simp [MapR]
  | c :: cs, es, i, hr => by
    obtain ⟨k', m, v, x, rest, rfl, rfl, h3, h4, h5, h6⟩ := hr
    cases i with
    | zero => simpa using h6
    | succ i => exact ⟨k', m, v, x, rest.eraseIdx i, rfl, by simp, h3, h4, h5, MapR.erase i h6⟩

theorem setEntries_run (hS : Sim K B ν H w) {b : Nat} {m : Tgt} {k : Blk} (hm : ν b = some m) (hb : H[b]? = some k) (hk : k.mode = .map ∧ k.esz = 0) {cs : List CV} {es : Array MapEntry} {cl : Nat} (hr : MapR ν cs es.toList) (hst : MapKept.Stamped es cl) {H' : CHeap} (h : setEntries H b cs = some H') :
    Sim K B ν H' { w with heap := w.heap.setIfInBounds m.c (.map es cl) } := by
  unfold setEntries at h
  rw [hb] at h
  simp only at h
  split at h
  case isFalse => cases h
  rw [Option.some.injEq] at h
  subst h
  exact hS.setObj hb hk.1 hm (k2 := { k with cells := cs }) hk.1 (.inl ⟨hk.2, es, cl, rfl, by rw [(entCells_map hr).1]; exact hr, hst, fun e => by rw [(entCells_map hr).2] at e; cases e⟩)

theorem mapSet_run (hS : Sim K B ν H w) {c x y : CV} {v u uy : Value} (h : V ν c v) (hx : V ν x u) (hy : V ν y uy) {t : TypeId} {q : IntKind × CV} (hq : mapT P t = some q) {H' : CHeap} (hr : mapSetOf H q.1 c x y = some H') :
    ∃ w', (Instr.mapUpdate t v u uy).run P w = .ok () w' ∧ Sim K B ν H' w' := by
  obtain ⟨kt, e, i, z, hu, hk, hi, hz, hzl⟩ := mapT_und hq
  unfold mapSetOf at hr
  split at hr
  · rename_i b k' n
    split at hr
    · rename_i hc
      obtain ⟨rfl, hleaf⟩ := hc
      simp only [Option.bind_eq_some_iff] at hr
      obtain ⟨es, hes, f, hf, hr⟩ := hr
      simp only [V] at hx
      subst hx
      rcases entries_run hS h hes with ⟨rfl, rfl⟩ | ⟨b', m, kk, xs, cl, hbb, hm, hb', hd, hes', rfl, hw, hR, hst⟩
      · simp only [V] at h
        obtain ⟨_, _, h⟩ := h
        cases h
      simp only [CV.mapv.injEq] at hbb
      subst hbb
      have ck : ∀ b, (Instr.checkKey b 10000 kt (.int q.1 n)).run P w = .ok () w := fun b => MapKept.run_checkKey hk (by simp [MapKept.IsKey]) b 9999
      have hfr := mfind_run hR hf
      cases f with
      | none =>
        simp only at hfr hr
        have hfk := MapKept.run_findKey (w := w) hk hfr
        refine ⟨_, ?_, setEntries_run hS hm hb' hd (es := xs.push { key := .int q.1 n, val := uy, born := cl }) (cl := cl + 1) (by simpa using hR.push (e := { key := .int q.1 n, val := uy, born := cl }) rfl hy hleaf) (MapKept.stamped_push hst (mfind_none hR hf)) hr⟩
        simp [Instr.mapUpdate, run_underlying hu, MapKept.run_getObj_map hw, ck, hfk, MapKept.run_setObj_map _ hw]
      | some p =>
        obtain ⟨j, vv⟩ := p
        simp only at hfr hr
        obtain ⟨uu, hfr, hV, _, x0, hx0, hxk⟩ := hfr
        have hfk := MapKept.run_findKey (w := w) hk hfr
        have hx1 : xs[j]? = some x0 := by simpa using hx0
        have hjl : j < es.length := by
          have := hR.length
          have := (List.getElem?_eq_some_iff.1 hx0).1
          omega
        have hkt : (Instr.keyThatStays (.int q.1 n) (.int q.1 n)).run P w = .ok (.int q.1 n) w := MapKept.run_keyThatStays (d := .int q.1) (by simp [MapKept.IsKey])
        refine ⟨_, ?_, setEntries_run hS hm hb' hd (es := xs.modify j fun e => { e with key := .int q.1 n, val := uy }) (cl := cl) (by simpa using hR.modify (f := fun e => { e with key := .int q.1 n, val := uy }) (fun e => ⟨rfl, hy⟩) hleaf hjl) (MapKept.stamped_modify hst _ _ (fun _ _ => rfl) (fun e _ he => by rw [hx1] at he; simp only [Option.some.injEq] at he; subst he; exact hxk.symm)) hr⟩
        simp [Instr.mapUpdate, run_underlying hu, MapKept.run_getObj_map hw, ck, hfk, hx1, hxk, hkt, MapKept.run_setObj_map _ hw]
    · cases hr
  · cases hr

theorem mapDel_run (hS : Sim K B ν H w) {c x : CV} {v u : Value} (h : V ν c v) (hx : V ν x u) {t ty t2 : TypeId} {q : IntKind × CV} (hq : mapT P t = some q) {H' : CHeap} (hr : mapDelOf H q.1 c x = some H') {ts : Array TypeId} (hts : ts[0]? = some t) :
    ∃ w', (Builtin.delete_ ts ty #[v, u]).run P w = .ok (.tuple #[]) w' ∧ Sim K B ν H' w' := by
  obtain ⟨kt, e, i, z, hu, hk, hi, hz, hzl⟩ := mapT_und hq
  unfold mapDelOf at hr
  split at hr
  · rename_i b k' n
    split at hr
    · rename_i hc
      subst hc
      simp only [Option.bind_eq_some_iff] at hr
      obtain ⟨es, hes, f, hf, hr⟩ := hr
      simp only [V] at hx
      subst hx
      rcases entries_run hS h hes with ⟨rfl, rfl⟩ | ⟨b', m, kk, xs, cl, hbb, hm, hb', hd, hes', rfl, hw, hR, hst⟩
      · simp only [V] at h
        obtain ⟨_, _, h⟩ := h
        cases h
      simp only [CV.mapv.injEq] at hbb
      subst hbb
      have ck : ∀ b, (Instr.checkKey b 10000 kt (.int q.1 n)).run P w = .ok () w := fun b => MapKept.run_checkKey hk (by simp [MapKept.IsKey]) b 9999
      have hfr := mfind_run hR hf
      cases f with
      | none =>
        simp only at hfr hr
        have hfk := MapKept.run_findKey (w := w) hk hfr
        refine ⟨_, ?_, setEntries_run hS hm hb' hd (es := xs) (cl := cl) hR hst hr⟩
        simp [Builtin.delete_, hts, run_underlying hu, MapKept.run_getObj_map hw, ck, hfk, MapKept.run_setObj_map _ hw]
      | some p =>
        obtain ⟨j, vv⟩ := p
        simp only at hfr hr
        obtain ⟨uu, hfr, hV, _, x0, hx0, hxk⟩ := hfr
        have hfk := MapKept.run_findKey (w := w) hk hfr
        refine ⟨_, ?_, setEntries_run hS hm hb' hd (es := xs.eraseIdxIfInBounds j) (cl := cl) (by
          have := hR.erase j
          rw [Array.toList_eraseIdxIfInBounds]
          exact this) (MapKept.stamped_erase hst _) hr⟩
        simp [Builtin.delete_, hts, run_underlying hu, MapKept.run_getObj_map hw, ck, hfk, MapKept.run_setObj_map _ hw]
    · cases hr
  · rename_i k' n
    split at hr
    · rename_i hc
      subst hc
      simp only [Option.some.injEq] at hr
      subst hr
      simp only [V] at h hx
      subst h; subst hx
      have ck : ∀ b, (Instr.checkKey b 10000 kt (.int q.1 n)).run P w = .ok () w := fun b => MapKept.run_checkKey hk (by simp [MapKept.IsKey]) b 9999
      exact ⟨w, by simp [Builtin.delete_, hts, run_underlying hu, ck], hS⟩
    · cases hr
  · cases hr

theorem mapClear_run (hS : Sim K B ν H w) {b : Nat} {v : Value} (h : V ν (.mapv b) v) {t ty : TypeId} {q : IntKind × CV} (hq : mapT P t = some q) {H' : CHeap} (hr : setEntries H b [] = some H') {ts : Array TypeId} (hts : ts[0]? = some t) :
    ∃ w', (Builtin.clear_ ts ty #[v]).run P w = .ok (.tuple #[]) w' ∧ Sim K B ν H' w' := by
  obtain ⟨kt, e, i, z, hu, hk, hi, hz, hzl⟩ := mapT_und hq
  simp only [V] at h
  obtain ⟨m, hm, rfl⟩ := h
  have hr' := hr
  unfold setEntries at hr'
  split at hr'
  · rename_i k hb
    split at hr'
    · rename_i hd
      obtain ⟨ob, hw, hob, _⟩ := hS.mp b k m hb hd.1 hm
      obtain ⟨xs, cl, rfl, hR, -⟩ := hob.map hd.2.1
      refine ⟨_, ?_, setEntries_run hS hm hb ⟨hd.1, hd.2.1⟩ (es := #[]) (cl := cl) (show MapR ν [] [] from rfl) (MapKept.stamped_empty cl) hr⟩
      simp [Builtin.clear_, hts, run_underlying hu, MapKept.run_getObj_map hw, MapKept.run_setObj_map _ hw]
    · cases hr'
  · cases hr'
end
end Go.Cs

/- All steady operations together. -/
namespace Go.Cs
open Go Go.RowKit

section
variable {P : Program} {ν : Mu} {E : Env} {a : Act} {w : World} {H : CHeap} {K : Nat → Option Obj} {B : Bs}

theorem execOp_value {o : Oper} {s : Sem Value} (h : execOp a.eval o = (do pure (.value (← s)))) {v : Value} {w' : World} (hr : s.run P w = .ok v w') : (execOp a.eval o).run P w = .ok (.value v) w' := by
  rw [h]; exact run_value hr

theorem VL_replicate {zs : List CV} {vs : List Value} (h : VL ν zs vs) (k : Nat) : VL ν (List.replicate k zs).flatten (List.replicate k vs).flatten := by
  induction k with
  | zero => simp [VL]
  | succ k ih => simp only [List.replicate_succ, List.flatten_cons]; exact h.append ih

theorem range_mod (z : Array Value) (k : Nat) : ((Array.range (k * z.size)).map (z[· % z.size]!)).toList = (List.replicate k z.toList).flatten := by
  induction k with
  | zero => simp
  | succ k ih =>
    rw [List.replicate_succ', List.flatten_append, ← ih]
    simp only [Array.toList_map, Array.toList_range, List.flatten_cons, List.flatten_nil, List.append_nil]
    rw [Nat.succ_mul, List.range_add, List.map_append, List.map_map]
    congr 1
    apply List.ext_getElem?
    intro i
    rw [List.getElem?_map]
    rcases Nat.lt_or_ge i z.size with hi | hi
    · rw [List.getElem?_range hi]
      simp only [Option.map_some, Function.comp, Nat.mul_add_mod_self_right, Nat.mod_eq_of_lt hi]
      rw [Array.getElem?_toList, Array.getElem?_eq_getElem hi, getElem!_pos z i hi]
    · rw [List.getElem?_eq_none (by simpa using hi), List.getElem?_eq_none (by simpa using hi)]; rfl

theorem equalIn_nil_ptr (d : Nat) {t e : TypeId} (p : Option Addr) (h : P.underlying t = some (.pointer e)) : (Op.equalIn (d + 1) t (.pointer none) (.pointer p)).run P w = .ok p.isNone w := by
  simp [Op.equalIn, run_underlying h]
theorem equalIn_ptr_nil (d : Nat) {t e : TypeId} (p : Addr) (h : P.underlying t = some (.pointer e)) : (Op.equalIn (d + 1) t (.pointer (some p)) (.pointer none)).run P w = .ok false w := by
  simp [Op.equalIn, run_underlying h]
theorem equalIn_nil_slice (d : Nat) {t e : TypeId} (p : Option Addr) (l c : Nat) (h : P.underlying t = some (.slice e)) : (Op.equalIn (d + 1) t (.slice none 0 0) (.slice p l c)).run P w = .ok p.isNone w := by
  simp [Op.equalIn, run_underlying h]
theorem equalIn_slice_nil (d : Nat) {t e : TypeId} (p : Addr) (l c : Nat) (h : P.underlying t = some (.slice e)) : (Op.equalIn (d + 1) t (.slice (some p) l c) (.slice none 0 0)).run P w = .ok false w := by
  simp [Op.equalIn, run_underlying h]

theorem eql_neq_of {t : TypeId} {x y : Operand} {vx vy : Value} {r : Bool} (h1 : eqGuard .eql t x y vx vy = pure ()) (h2 : eqGuard .neq t x y vx vy = pure ())
    (h3 : binOp .eql t vx vy = (do pure (.bool (← Op.equal t vx vy)))) (h4 : binOp .neq t vx vy = (do pure (.bool (!(← Op.equal t vx vy))))) (h : (Op.equalIn 10000 t vx vy).run P w = .ok r w) :
    (do eqGuard .eql t x y vx vy; binOp .eql t vx vy : Sem Value).run P w = .ok (.bool r) w ∧ (do eqGuard .neq t x y vx vy; binOp .neq t vx vy : Sem Value).run P w = .ok (.bool (!r)) w := by
  rw [h1, h2, h3, h4]
  simp [Op.equal, Op.maxDepth, h]

theorem eqv_run {t : TypeId} {x y : Operand} {c d : CV} {vx vy : Value} {r : Bool} {ty : Nat} (hx : V ν c vx) (hy : V ν d vy) (he : eqVal ty c d = some r)
    (ht : (ty = 0 → P.underlying t = some .bool) ∧ (ty = 1 → ∃ e, P.underlying t = some (.pointer e)) ∧ (ty = 2 → ∃ e, P.underlying t = some (.slice e))) :
    (do eqGuard .eql t x y vx vy; binOp .eql t vx vy : Sem Value).run P w = .ok (.bool r) w ∧ (do eqGuard .neq t x y vx vy; binOp .neq t vx vy : Sem Value).run P w = .ok (.bool (!r)) w := by
  unfold eqVal at he
  split at he
  · simp only [Option.some.injEq] at he; subst he
    simp only [V] at hx hy; subst hx; subst hy
    exact eql_neq_of (eqGuard_at_bool ..) (eqGuard_at_bool ..) rfl rfl (run_equalIn_bool w 9999 t _ _ (ht.1 rfl))
  · obtain ⟨e, hu⟩ := ht.2.1 rfl
    simp only [Option.some.injEq] at he; subst he
    simp only [V] at hx hy; subst hx; subst hy
    exact eql_neq_of (eqGuard_at_pointer ..) (eqGuard_at_pointer ..) rfl rfl (equalIn_nil_ptr 9999 none hu)
  · obtain ⟨e, hu⟩ := ht.2.1 rfl
    simp only [Option.some.injEq] at he; subst he
    simp only [V] at hx hy; subst hx; obtain ⟨m, _, rfl⟩ := hy
    exact eql_neq_of (eqGuard_at_pointer ..) (eqGuard_at_pointer ..) rfl rfl (equalIn_nil_ptr 9999 (some _) hu)
  · obtain ⟨e, hu⟩ := ht.2.1 rfl
    simp only [Option.some.injEq] at he; subst he
    simp only [V] at hx hy; subst hy; obtain ⟨m, _, rfl⟩ := hx
    exact eql_neq_of (eqGuard_at_pointer ..) (eqGuard_at_pointer ..) rfl rfl (equalIn_ptr_nil 9999 _ hu)
  · obtain ⟨e, hu⟩ := ht.2.2 rfl
    simp only [Option.some.injEq] at he; subst he
    simp only [V] at hx hy; subst hx; subst hy
    exact eql_neq_of (eqGuard_at_slice ..) (eqGuard_at_slice ..) rfl rfl (equalIn_nil_slice 9999 none 0 0 hu)
  · obtain ⟨e, hu⟩ := ht.2.2 rfl
    simp only [Option.some.injEq] at he; subst he
    simp only [V] at hx hy; subst hx; obtain ⟨m, c', off, _, _, rfl, _⟩ := hy
    exact eql_neq_of (eqGuard_at_slice ..) (eqGuard_at_slice ..) rfl rfl (equalIn_nil_slice 9999 (some _) _ _ hu)
  · obtain ⟨e, hu⟩ := ht.2.2 rfl
    simp only [Option.some.injEq] at he; subst he
    simp only [V] at hx hy; subst hy; obtain ⟨m, c', off, _, _, rfl, _⟩ := hx
    exact eql_neq_of (eqGuard_at_slice ..) (eqGuard_at_slice ..) rfl rfl (equalIn_slice_nil 9999 _ _ _ hu)
  · cases he

theorem places_run : ∀ (l : List Field) (pl : List (Nat × Nat)), allSome (l.map fun f => (sizeT P f.type).map fun n => (f.offset, n)) = some pl →
    (l.mapM fun f => Prod.mk f.offset <$> sizeOf f.type : Sem (List (Nat × Nat))).run P w = .ok pl w
  | [], pl, h => by simp only [List.map_nil, allSome, Option.some.injEq] at h; subst h; simp
  | f :: l, pl, h => by
    simp only [List.map_cons] at h
    cases hn : sizeT P f.type with
    | none => rw [hn] at h; cases h
    | some n =>
      rw [hn] at h
      simp only [Option.map_some, allSome, Option.map_eq_some_iff] at h
      obtain ⟨q, hq, rfl⟩ := h
      have ih := places_run l q hq
      rw [List.mapM_cons]
      simp [sizeT_run hn, ih]

theorem fill_length : ∀ {qs : List (Nat × Nat × CV)} {cs zs : List CV}, fill cs qs = some zs → zs.length = cs.length
  | [], cs, zs, h => by simp only [fill, Option.some.injEq] at h; subst h; rfl
  | q :: qs, cs, zs, h => by
    obtain ⟨off, size, c⟩ := q
    simp only [fill] at h
    split at h
    · rename_i hc
      rw [fill_length h, splice_length (by omega)]
    · cases h

theorem eqv_all {dst : Option Tmp} {type : TypeId} {pos : String} {after : Array Edge} {guard : Option (Nat × Bool)} {op : BinOp} {t yt : TypeId} {x y : Operand} {x' y' : Opd} {ty : Nat} {op' : COp} {m : Option Blk × (Nat → CV)}
    (hx : opd x = some x') (hy : opd y = some y') (hE : ∀ t ∈ op'.tmps, V ν (E t) (a.tmps.getD t undef)) (hm : mkOf op' E H = some m)
    (hc : (match op with | .eql => some (COp.eqv false ty x' y') | .neq => some (.eqv true ty x' y') | _ => none) = some op')
    (ht : (ty = 0 → P.underlying t = some .bool) ∧ (ty = 1 → ∃ e, P.underlying t = some (.pointer e)) ∧ (ty = 2 → ∃ e, P.underlying t = some (.slice e))) :
    MkR P (execOp a.eval ⟨dst, .binOp op t x y yt, type, pos, after, guard⟩) w m ν := by
  have : ∃ neg, op' = .eqv neg ty x' y' ∧ (if neg then op = .neq else op = .eql) := by
    cases op <;> simp at hc
    · exact ⟨false, hc.symm, by simp⟩
    · exact ⟨true, hc.symm, by simp⟩
  obtain ⟨neg, rfl, hneg⟩ := this
  have h1 := opd_V hx (fun t ht => hE t (by simp [COp.tmps, ht]))
  have h2 := opd_V hy (fun t ht => hE t (by simp [COp.tmps, ht]))
  simp only [mkOf, Option.map_eq_some_iff] at hm
  obtain ⟨v, hv, rfl⟩ := hm
  obtain ⟨g1, g2⟩ := eqv_run (P := P) (w := w) (x := x) (y := y) h1 h2 hv ht
  cases neg with
  | true =>
    simp only [if_true] at hneg
    subst hneg
    exact MkR.stay (v' := .bool (!v)) (execOp_value rfl g2) fun _ => by simp [V]
  | false =>
    simp only [Bool.false_eq_true, if_false] at hneg
    subst hneg
    exact MkR.stay (v' := .bool v) (execOp_value rfl g1) fun _ => by simp [V]

theorem mm_fold (big : Bool) : ∀ (l : List CV) (vs : List Value) (c : CV) (u : Value) {r : CV}, VL ν l vs → V ν c u → l.foldlM (mm2 big) c = some r →
    ∃ v', (vs.foldlM (if big then Builtin.max2 else Builtin.min2) u : Sem Value).run P w = .ok v' w ∧ V ν r v'
  | [], vs, c, u, r, hl, hu, h => by
    simp only [VL] at hl
    subst hl
    simp only [List.foldlM_nil, Option.pure_def, Option.some.injEq] at h
    subst h
    exact ⟨u, by simp, hu⟩
  | d :: l, vs, c, u, r, hl, hu, h => by
    simp only [VL] at hl
    obtain ⟨v, rest, rfl, hv, hl⟩ := hl
    simp only [List.foldlM_cons, Option.bind_eq_bind, Option.bind_eq_some_iff] at h
    obtain ⟨q, hq, h⟩ := h
    unfold mm2 at hq
    split at hq
    · rename_i k x k' y
      simp only [Option.some.injEq] at hq
      simp only [V] at hu hv
      subst hu; subst hv
      obtain ⟨v', hr, hV⟩ := mm_fold big l rest q (.int k (if big then (if y > x then y else x) else (if y < x then y else x))) hl (by rw [← hq]; simp [V]) h
      refine ⟨v', ?_, hV⟩
      rw [List.foldlM_cons]
      cases big <;> simpa [Builtin.max2, Builtin.min2] using hr
    · cases hq
theorem mm_run (big : Bool) {l : List CV} {vs : Array Value} {r : CV} (ts : Array TypeId) (ty : TypeId) (hl : VL ν l vs.toList) (h : mmOf big l = some r) :
    ∃ v', ((if big then Builtin.max_ else Builtin.min_) ts ty vs).run P w = .ok v' w ∧ V ν r v' := by
  cases l with
  | nil => cases h
  | cons c l =>
    simp only [VL] at hl
    obtain ⟨v, rest, hvs, hv, hl⟩ := hl
    obtain ⟨v', hr, hV⟩ := mm_fold (P := P) (w := w) big l rest c v hl hv h
    refine ⟨v', ?_, hV⟩
    cases big
    · simpa [Builtin.min_, hvs] using hr
    · simpa [Builtin.max_, hvs] using hr

/-- The package variables that nothing writes hold what they are said to hold. -/
def GlobOk (P : Program) (w : World) : Prop := ∀ g zs, globOf P g = some zs → ∃ T fz, w.heap[g]? = some (.cells (zs.map (Value.int .i64)).toArray T fz)

theorem glob_run {P : Program} {K : Nat → Option Obj} {B : Bs} {ν : Mu} {H : CHeap} {w : World} (hG : GlobOk P B.toWorld) (hS : Sim K B ν H w) {t : TypeId} {g : Nat} {zs : List Int} (hz : globOf P g = some zs) (ha : isAggT P t = some true) (hn : sizeT P t = some zs.length) :
    ∃ v', (loadVar t ⟨g, 0, none⟩).run P w = .ok v' w ∧ V ν (.agg (zs.map (.int .i64))) v' := by
  obtain ⟨T, fz, hc⟩ := hG g zs hz
  have hw : w.heap[g]? = some (.cells (zs.map (Value.int .i64)).toArray T fz) := by rw [hS.base.block g (Array.getElem?_eq_some_iff.1 hc).1]; exact hc
  have hr := run_loadCells_list (P := P) w ⟨g, 0, none⟩ (zs.map (Value.int .i64)) (fun j v hv => by
    rw [Addr.add_lit, Nat.zero_add]; simp only [World.cell?, hw]; simpa using hv)
  rw [List.length_map] at hr
  refine ⟨.agg (zs.map (Value.int .i64)).toArray, ?_, ?_⟩
  · simp only [loadVar, Sem.run_bind, isAggT_run ha, Result.andThen_ok, if_true]
    simp [sizeT_run hn, hr]
  · simp only [V]
    refine ⟨_, rfl, ?_⟩
    simp only [List.toList_toArray]
    clear hr hn hc hw hz
    induction zs with
    | nil => simp [VL]
    | cons z zs ih => simp only [List.map_cons, VL]; exact ⟨_, _, rfl, by simp [V], ih⟩

/-- Every operation of the model that the clean machine has as a steady one. -/
theorem mk_sim (hG : GlobOk P B.toWorld) (hS : Sim K B ν H w) {o : Oper} {op' : COp} (hc : compOp P o.op = some op') (hE : ∀ t ∈ op'.tmps, V ν (E t) (a.tmps.getD t undef)) {m : Option Blk × (Nat → CV)} (hm : mkOf op' E H = some m) :
    MkR P (execOp a.eval o) w m ν := by
  obtain ⟨dst, oop, type, pos, after, guard⟩ := o
  dsimp only at hc
  cases oop with
  | move x | assign x =>
    simp only [compOp, Option.map_eq_some_iff] at hc
    obtain ⟨y, hy, rfl⟩ := hc
    simp only [mkOf, Option.some.injEq] at hm
    subst hm
    exact MkR.stay (v' := a.eval x) (by simp [execOp]) fun _ => opd_V hy hE
  | pick c p q =>
    simp only [compOp, Option.bind_eq_some_iff, Option.map_eq_some_iff] at hc
    obtain ⟨c', hc', p', hp, q', hq, rfl⟩ := hc
    have h1 := opd_V hc' (fun t ht => hE t (by simp [COp.tmps, ht]))
    have h2 := opd_V hp (fun t ht => hE t (by simp [COp.tmps, ht]))
    have h3 := opd_V hq (fun t ht => hE t (by simp [COp.tmps, ht]))
    simp only [mkOf] at hm
    split at hm
    · rename_i t ht
      simp only [Option.some.injEq] at hm
      subst hm
      rw [ht] at h1
      simp only [V] at h1
      refine MkR.stay (v' := if t then a.eval p else a.eval q) (by simp [execOp, h1, asBool]) fun _ => ?_
      cases t
      · exact h3
      · exact h2
    · cases hm
  | alloc t =>
    simp only [compOp, Option.map_eq_some_iff] at hc
    obtain ⟨z, hz, rfl⟩ := hc
    obtain ⟨i, v, hi, hv, hV⟩ := zeroOf_V ν hz
    simp only [mkOf, Option.some.injEq] at hm
    subst hm
    refine MkR.made (v' := .pointer (some ⟨w.heap.size, 0, none⟩)) (arr := v.cells) (T := t) ?_ hV fun ρ k _ hk => ?_
    · simp [execOp, Instr.alloc, zeroValue_run hi hv, newVar, newRow]
    · simp only [V]; exact ⟨_, hk, rfl⟩
  | box t x =>
    simp only [compOp, Option.map_eq_some_iff] at hc
    obtain ⟨y, hy, rfl⟩ := hc
    have h1 := opd_V hy hE
    simp only [mkOf, Option.some.injEq] at hm
    subst hm
    refine MkR.made (v' := .pointer (some ⟨w.heap.size, 0, none⟩)) (arr := (a.eval x).cells) (T := t) ?_ h1.cells fun ρ k _ hk => ?_
    · simp [execOp, Instr.box, newVar, newRow]
    · simp only [V]; exact ⟨_, hk, rfl⟩
  | build t parts =>
    simp only [compOp] at hc
    split at hc
    · rename_i fs hu
      simp only [Option.bind_eq_some_iff, Option.map_eq_some_iff] at hc
      obtain ⟨z, hz, pl, hpl, ps, hps, rfl⟩ := hc
      obtain ⟨i, v, hi, hv, hV⟩ := zeroOf_V ν hz
      simp only [mkOf, Option.map_eq_some_iff] at hm
      obtain ⟨cs, hcs, rfl⟩ := hm
      obtain ⟨out, hout, hVo⟩ := compParts_V hps (fun t ht => hE t (by simpa [COp.tmps] using ht)) hV hcs
      refine MkR.stay (v' := .agg out) ?_ fun _ => by simp only [V]; exact ⟨_, rfl, hVo⟩
      have hout' := hout
      simp only [Array.toList_map] at hout'
      simp [execOp, Instr.build, zeroValue_run hi hv, run_underlying hu, Array.mapM_eq_mapM_toList, places_run _ _ hpl, hout']
    · rename_i l e hu
      simp only [Option.bind_eq_some_iff, Option.map_eq_some_iff] at hc
      obtain ⟨z, hz, n, hn, ps, hps, rfl⟩ := hc
      obtain ⟨i, v, hi, hv, hV⟩ := zeroOf_V ν hz
      simp only [mkOf, Option.map_eq_some_iff] at hm
      obtain ⟨cs, hcs, rfl⟩ := hm
      obtain ⟨out, hout, hVo⟩ := compParts_V hps (fun t ht => hE t (by simpa [COp.tmps] using ht)) hV hcs
      refine MkR.stay (v' := .agg out) ?_ fun _ => by simp only [V]; exact ⟨_, rfl, hVo⟩
      have hout' := hout
      simp only [Array.toList_map] at hout'
      simp [execOp, Instr.build, zeroValue_run hi hv, run_underlying hu, sizeT_run hn, hout']
    · cases hc
  | buildSlice t len parts =>
    simp only [compOp, Option.bind_eq_some_iff] at hc
    obtain ⟨e, he, n, hn, z, hz, ps, hps, hg⟩ := hc
    obtain ⟨hgd, hop⟩ := guardB_some hg
    simp only [Option.some.injEq] at hop
    subst hop
    simp only [Bool.and_eq_true, decide_eq_true_eq] at hgd
    obtain ⟨⟨hn0, hzl⟩, hlim⟩ := hgd
    obtain ⟨i, v, hi, hv, hV⟩ := zeroOf_V ν hz
    have hvs : v.cells.size = n := by have := hV.length; simp at this; omega
    simp only [mkOf, Option.map_eq_some_iff] at hm
    obtain ⟨cs, hcs, rfl⟩ := hm
    have hz0 := VL_replicate hV len
    have hzr : ((Array.range (len * n)).map (v.cells[· % v.cells.size]!)).toList = (List.replicate len v.cells.toList).flatten := by rw [← hvs]; exact range_mod _ _
    rw [← hzr] at hz0
    obtain ⟨out, hout, hVo⟩ := compParts_V hps (fun t ht => hE t (by simpa [COp.tmps] using ht)) hz0 hcs
    have hos : out.size = len * n := by
      have h1 := hVo.length
      have h2 := fill_length hcs
      rw [← Array.length_toList, h1, h2, List.length_flatten]
      simp [hzl]
    refine MkR.made (v' := .slice (some ⟨w.heap.size, 0, none⟩) len len) (arr := out) (T := e) ?_ hVo fun ρ k _ hk => ?_
    · have hlt : ¬ (len * n > 2 ^ 24) := by omega
      refine execOp_value (s := Instr.buildSlice t len (parts.map fun x => (x.1, a.eval x.2))) rfl ?_
      simp only [Instr.buildSlice, Sem.run_bind, run_underlying (sliceElem_und he), Result.andThen_ok, sizeT_run hn, if_neg hlt, Sem.run_pure]
      rcases Nat.eq_zero_or_pos len with h0 | h0
      · subst h0
        simp only [Nat.zero_mul, Array.range_zero', Array.map_empty] at hout
        simp only [Nat.zero_mul, if_true, Sem.run_pure, Result.andThen_ok, Array.range_zero', Array.map_empty, hout]
        simp [newRow]
      · have hne : ¬ (len * n = 0) := by have := Nat.mul_pos h0 hn0; omega
        simp only [if_neg hne, Sem.run_bind, zeroValue_run hi hv, Result.andThen_ok, Sem.run_pure, hout]
        simp [newRow]
    · simp only [V]
      refine ⟨_, len, 0, hk, rfl, rfl, Nat.le_refl _, by simp, .inr (by simp), ?_⟩
      dsimp only
      omega
  | load t x =>
    cases x with
    | global g0 =>
      simp only [compOp, globLoad, Option.bind_eq_some_iff] at hc
      obtain ⟨zs, hz, hc⟩ := hc
      split at hc
      · rename_i hcc
        simp only [Option.some.injEq] at hc
        subst hc
        obtain ⟨v', hr, hV⟩ := glob_run (P := P) hG hS hz hcc.1 hcc.2
        simp only [mkOf, Option.some.injEq] at hm
        subst hm
        exact MkR.stay (v' := v') (by simp [execOp, Instr.loadAt, Act.eval, Instr.sureAddr, hr]) fun _ => hV
      · cases hc
    | _ =>
      simp only [compOp, Option.bind_eq_some_iff, Option.map_eq_some_iff] at hc
      obtain ⟨g, hg, n, hn, y, hy, rfl⟩ := hc
      have h1 := opd_V hy hE
      simp only [mkOf] at hm
      split at hm
      · rename_i b o hb
        rw [hb] at h1
        simp only [V] at h1
        obtain ⟨mm, hmm, he⟩ := h1
        have key : ∃ v, (if g = true then (loadN H b o n).map .agg else load1 H b o) = some v ∧ m = (none, fun _ => v) := by
          split at hm
          · rename_i hgt
            rw [Option.map_eq_some_iff] at hm
            obtain ⟨cs, hcs, rfl⟩ := hm
            exact ⟨.agg cs, by rw [if_pos hgt, hcs]; rfl, rfl⟩
          · rename_i hgt
            rw [Option.map_eq_some_iff] at hm
            obtain ⟨v, hv, rfl⟩ := hm
            exact ⟨v, by rw [if_neg hgt, hv], rfl⟩
        obtain ⟨v, hv, rfl⟩ := key
        obtain ⟨v', hr, hV⟩ := load_run (P := P) hS hg hn hv hmm
        exact MkR.stay (v' := v') (by simp [execOp, Instr.loadAt, he, Instr.sureAddr, hr]) fun _ => hV
      · cases hm
  | nilCheck x =>
    simp only [compOp, Option.map_eq_some_iff] at hc
    obtain ⟨y, hy, rfl⟩ := hc
    have h1 := opd_V hy hE
    simp only [mkOf] at hm
    split at hm
    · rename_i b o hb
      simp only [Option.some.injEq] at hm
      subst hm
      rw [hb] at h1
      have h2 := h1
      simp only [V] at h2
      obtain ⟨mm, hmm, he⟩ := h2
      exact MkR.stay (v' := a.eval x) (by simp [execOp, he]) fun _ => h1
    · rename_i t c hb
      simp only [Option.some.injEq] at hm
      subst hm
      rw [hb] at h1
      have h2 := h1
      simp only [V] at h2
      obtain ⟨u, he, _⟩ := h2
      exact MkR.stay (v' := a.eval x) (by simp [execOp, he]) fun _ => h1
    · cases hm
  | binOp op t x y yt =>
    simp only [compOp, Option.bind_eq_some_iff] at hc
    obtain ⟨x', hx, y', hy, hc⟩ := hc
    split at hc
    · have hop : op' = .bin op x' y' ∨ op' = .shift op x' y' := by cases op <;> simp at hc <;> first | exact .inl hc.symm | exact .inr hc.symm
      rcases hop with hop | hop
      case inr =>
        subst hop
        have h1 := opd_V hx (fun t ht => hE t (by simp [COp.tmps, ht]))
        have h2 := opd_V hy (fun t ht => hE t (by simp [COp.tmps, ht]))
        simp only [mkOf] at hm
        split at hm
        · rename_i k p k' q e1 e2
          rw [Option.map_eq_some_iff] at hm
          obtain ⟨v, hv, rfl⟩ := hm
          rw [e1] at h1
          rw [e2] at h2
          simp only [V] at h1 h2
          obtain ⟨v', hr, hV⟩ := sim_shift (P := P) (w := w) (ν := ν) (t := t) h1 h2 hv
          exact MkR.stay (v' := v') (execOp_value rfl hr) fun _ => hV
        · cases hm
      subst hop
      have h1 := opd_V hx (fun t ht => hE t (by simp [COp.tmps, ht]))
      have h2 := opd_V hy (fun t ht => hE t (by simp [COp.tmps, ht]))
      simp only [mkOf] at hm
      split at hm
      · rename_i k p k' q e1 e2
        split at hm
        · rename_i hk
          subst hk
          rw [Option.map_eq_some_iff] at hm
          obtain ⟨v, hv, rfl⟩ := hm
          rw [e1] at h1
          rw [e2] at h2
          simp only [V] at h1 h2
          obtain ⟨v', hr, hV⟩ := sim_bin (P := P) (w := w) (ν := ν) (t := t) h1 h2 hv
          exact MkR.stay (v' := v') (execOp_value rfl hr) fun _ => hV
        · cases hm
      · cases hm
    · rename_i hu
      exact eqv_all hx hy hE hm hc ⟨fun _ => hu, by simp, by simp⟩
    · rename_i e hu
      exact eqv_all hx hy hE hm hc ⟨by simp, fun _ => ⟨e, hu⟩, by simp⟩
    · rename_i e hu
      exact eqv_all hx hy hE hm hc ⟨by simp, by simp, fun _ => ⟨e, hu⟩⟩
    · rename_i l e hu
      obtain ⟨hgd, hop⟩ := guardB_some hc
      simp only [Bool.and_eq_true, beq_iff_eq, Bool.not_eq_true'] at hgd
      obtain ⟨⟨⟨hb, hs⟩, ha⟩, hgt⟩ := hgd
      have : ∃ neg, op' = .eqb neg l x' y' ∧ (if neg then op = .neq else op = .eql) := by
        cases op <;> simp at hop
        · exact ⟨false, hop.symm, by simp⟩
        · exact ⟨true, hop.symm, by simp⟩
      obtain ⟨neg, rfl, hneg⟩ := this
      have h1 := opd_V hx (fun t ht => hE t (by simp [COp.tmps, ht]))
      have h2 := opd_V hy (fun t ht => hE t (by simp [COp.tmps, ht]))
      simp only [mkOf] at hm
      split at hm
      · rename_i xs ys e1 e2
        split at hm
        · rename_i hl
          rw [Option.map_eq_some_iff] at hm
          obtain ⟨v, hv, rfl⟩ := hm
          rw [e1] at h1
          rw [e2] at h2
          obtain ⟨g1, g2, g3, g4⟩ := sim_eqb (P := P) (w := w) (x := x) (y := y) hu hb hs hgt h1 h2 hv hl
          cases neg with
          | true =>
            simp only [if_true] at hneg
            subst hneg
            exact MkR.stay (v' := .bool (!v)) (execOp_value rfl (by simp [g2, g4])) fun _ => by simp [V]
          | false =>
            simp only [Bool.false_eq_true, if_false] at hneg
            subst hneg
            exact MkR.stay (v' := .bool v) (execOp_value rfl (by simp [g1, g3])) fun _ => by simp [V]
        · cases hm
      · cases hm
    · rename_i fs hu
      obtain ⟨hgd, hop⟩ := guardB_some hc
      have : ∃ neg, op' = .eqs neg fs.size x' y' ∧ (if neg then op = .neq else op = .eql) := by
        cases op <;> simp at hop
        · exact ⟨false, hop.symm, by simp⟩
        · exact ⟨true, hop.symm, by simp⟩
      obtain ⟨neg, rfl, hneg⟩ := this
      have h1 := opd_V hx (fun t ht => hE t (by simp [COp.tmps, ht]))
      have h2 := opd_V hy (fun t ht => hE t (by simp [COp.tmps, ht]))
      simp only [mkOf] at hm
      split at hm
      · rename_i xs ys e1 e2
        split at hm
        · rename_i hl
          rw [Option.map_eq_some_iff] at hm
          obtain ⟨v, hv, rfl⟩ := hm
          rw [e1] at h1
          rw [e2] at h2
          obtain ⟨g1, g2, g3, g4⟩ := sim_eqv_flat (P := P) (w := w) (x := x) (y := y) hgd h1 h2 hv ⟨fs, hu, hl⟩
          cases neg with
          | true =>
            simp only [if_true] at hneg
            subst hneg
            exact MkR.stay (v' := .bool (!v)) (execOp_value rfl (by simp [g2, g4])) fun _ => by simp [V]
          | false =>
            simp only [Bool.false_eq_true, if_false] at hneg
            subst hneg
            exact MkR.stay (v' := .bool v) (execOp_value rfl (by simp [g1, g3])) fun _ => by simp [V]
        · cases hm
      · cases hm
    · cases hc
  | unOp op t x =>
    cases op with
    | not =>
      simp only [compOp, Option.map_eq_some_iff] at hc
      obtain ⟨y, hy, rfl⟩ := hc
      have h1 := opd_V hy hE
      simp only [mkOf] at hm
      split at hm
      · rename_i b hb
        simp only [Option.some.injEq] at hm
        subst hm
        rw [hb] at h1
        simp only [V] at h1
        exact MkR.stay (v' := .bool !b) (by simp [execOp, h1, Op.unary]) fun _ => by simp [V]
      · cases hm
    | _ => cases hc
  | makeInterface t x =>
    simp only [compOp] at hc
    split at hc
    · rename_i fs hu
      rw [Option.map_eq_some_iff] at hc
      obtain ⟨y, hy, rfl⟩ := hc
      have h1 := opd_V hy hE
      simp only [mkOf, Option.some.injEq] at hm
      subst hm
      exact MkR.stay (v' := .iface t (a.eval x)) (execOp_value rfl (by simp [Instr.makeInterface, run_underlying hu])) fun _ => by simp only [V]; exact ⟨_, rfl, h1⟩
    · cases hc
  | makeFunc fn first caps =>
    cases fn with
    | method name =>
      simp only [compOp] at hc
      split at hc
      · rename_i x hf
        split at hc
        · rename_i hcp
          rw [Option.map_eq_some_iff] at hc
          obtain ⟨y, hy, rfl⟩ := hc
          have h1 := opd_V hy hE
          have hf' : first = #[x] := by rw [← Array.toArray_toList (xs := first), hf]
          have hc' : caps = #[] := by simpa using hcp
          simp only [mkOf, Option.some.injEq] at hm
          subst hm
          exact MkR.stay (v' := .func (.method name) #[a.eval x] #[]) (execOp_value rfl (by simp [Instr.makeFunc, hf', hc'])) fun _ => by simp only [V]; exact ⟨_, rfl, h1⟩
        · cases hc
      · cases hc
    | func f =>
      simp only [compOp] at hc
      split at hc
      · rename_i hf
        rw [Option.map_eq_some_iff] at hc
        obtain ⟨l, hl, rfl⟩ := hc
        have h1 := opds_VL hl (fun t ht => hE t (by simpa [COp.tmps] using ht))
        simp only [mkOf, Option.some.injEq] at hm
        subst hm
        have hf' : first = #[] := by simpa using hf
        refine MkR.stay (v' := .func (.func f) #[] (caps.map a.eval)) (by simp [execOp, Instr.makeFunc, hf']) fun _ => ?_
        simp only [V]
        exact ⟨_, rfl, h1⟩
      · cases hc
    | _ => cases hc
  | makeSlice t l c =>
    simp only [compOp, Option.bind_eq_some_iff] at hc
    obtain ⟨e, he, n, hn, b, hb, z, hz, l', hl, c', hcc, hg⟩ := hc
    obtain ⟨hgd, hop⟩ := guardB_some hg
    simp only [Option.some.injEq] at hop
    subst hop
    simp only [Bool.and_eq_true, decide_eq_true_eq] at hgd
    obtain ⟨⟨hn0, hzl⟩, hb4⟩ := hgd
    obtain ⟨i, v, hi, hv, hV⟩ := zeroOf_V ν hz
    have hvs : v.cells.size = n := by have := hV.length; simp at this; omega
    have hby : i.bytes = b := by simp only [bytesT, hi, Option.map_some, Option.some.injEq] at hb; exact hb
    have h1 := opd_V hl (fun t ht => hE t (by simp [COp.tmps, ht]))
    have h2 := opd_V hcc (fun t ht => hE t (by simp [COp.tmps, ht]))
    simp only [mkOf] at hm
    split at hm
    · rename_i l0 c0 e1 e2
      split at hm
      · rename_i hlc
        simp only [Option.some.injEq] at hm
        subst hm
        rw [e1] at h1
        rw [e2] at h2
        simp only [V] at h1 h2
        obtain ⟨cn, rfl⟩ := Int.eq_ofNat_of_zero_le (show 0 ≤ c0 by omega)
        obtain ⟨ln, rfl⟩ := Int.eq_ofNat_of_zero_le hlc.1
        simp only [maxEls] at hlc
        have w1 : IntKind.i64.wrap (ln : Int) = ln := wrap_small (by omega) (by omega)
        have w2 : IntKind.i64.wrap (cn : Int) = cn := wrap_small (by omega) (by omega)
        have hbig : ¬ ((2 : Int) ^ 48 < (b : Int) * (cn : Int)) := by
          have hle : b * cn ≤ 4096 * 16777216 := Nat.mul_le_mul hb4 (by omega)
          have hle' : ((b * cn : Nat) : Int) ≤ 68719476736 := by omega
          rw [Int.natCast_mul] at hle'
          omega
        have hz0 := VL_replicate hV cn
        rw [← range_mod, hvs] at hz0
        simp only [Int.toNat_natCast]
        refine MkR.made (v' := .slice (some ⟨w.heap.size, 0, none⟩) ln cn) (arr := (Array.range (cn * n)).map (v.cells[· % n]!)) (T := e) ?_ hz0 fun ρ k _ hk => ?_
        · refine execOp_value (s := Instr.makeSlice t (a.eval l) (a.eval c)) rfl ?_
          rw [h1, h2]
          have hcl : ¬ ((cn : Int) < 0) := by omega
          have hll : ¬ ((ln : Int) < 0) := by omega
          have hlc2 : ¬ ((cn : Int) < (ln : Int)) := by omega
          rcases Nat.eq_zero_or_pos cn with h0 | h0
          · subst h0
            have hl0 : ln = 0 := by omega
            subst hl0
            simp only [Instr.makeSlice, run_underlying (sliceElem_und he), asInt, asIntOf, typeInfo_run hi, hby, sizeT_run hn, Sem.run_bind, Result.andThen_ok, Sem.run_pure]
            simp [newRow, IntKind.wrap, IntKind.bits, sizeT_run hn, Array.range_zero']
          · have hne : ¬ (cn * n = 0) := by have := Nat.mul_pos h0 hn0; omega
            have hbig' : decide ((b : Int) * (cn : Int) > 2 ^ 48) = false := by simpa using hbig
            have hcl' : decide ((cn : Int) < 0) = false := by simp
            have hll' : decide ((ln : Int) < 0) = false := by simp
            have hlc' : decide ((ln : Int) > (cn : Int)) = false := by simpa using hlc2
            simp only [Instr.makeSlice, run_underlying (sliceElem_und he), asInt, asIntOf, typeInfo_run hi, hby, sizeT_run hn, Sem.run_bind, Result.andThen_ok, Sem.run_pure, w1, w2, hbig', hcl', hll', hlc', Bool.or_false, Bool.false_eq_true, if_false, Int.toNat_natCast, if_neg hne, zeroValue_run hi hv, run_askRoom, hvs]
            simp [newRow]
        · simp only [V]
          refine ⟨_, cn, 0, hk, rfl, rfl, by omega, by simp, .inr (by simp), ?_⟩
          simp
      · cases hm
    · cases hm
  | slice t x lo hi mx =>
    simp only [compOp, Option.bind_eq_some_iff, Option.map_eq_some_iff] at hc
    obtain ⟨e, he, n, hn, x', hx, lo', hlo, hi', hhi, mx', hmx, rfl⟩ := hc
    simp only [mkOf, Option.map_eq_some_iff] at hm
    obtain ⟨v, hv, rfl⟩ := hm
    obtain ⟨v', hr, hV⟩ := slice_run (P := P) (w := w) (sliceElem_und he) hn hx hlo hhi hmx hE hv
    exact MkR.stay (v' := v') (by simp [execOp, hr]) fun _ => hV
  | fieldAddr s x f =>
    simp only [compOp] at hc
    split at hc
    · rename_i fs hu
      simp only [Option.bind_eq_some_iff] at hc
      obtain ⟨fd, hfd, n, hn, x', hx, hg⟩ := hc
      obtain ⟨hgd, hop⟩ := guardB_some hg
      simp only [Option.some.injEq] at hop
      subst hop
      simp only [decide_eq_true_eq, ne_eq] at hgd
      have h1 := opd_V hx hE
      simp only [mkOf] at hm
      split at hm
      · rename_i b o hb
        simp only [Option.some.injEq] at hm
        subst hm
        rw [hb] at h1
        simp only [V] at h1
        obtain ⟨mm, hmm, he⟩ := h1
        refine MkR.stay (v' := .pointer (some ⟨mm.c, mm.s + (o + fd.offset), none⟩)) ?_ fun _ => by simp only [V]; exact ⟨mm, hmm, rfl⟩
        simp [execOp, Instr.fieldAt, run_underlying hu, hfd, he, Instr.sureAddr, fieldPlace, sizeT_run hn, hgd, Addr.add_lit, Nat.add_assoc]
      · cases hm
    · cases hc
  | convert s d x =>
    simp only [compOp] at hc
    split at hc
    · rename_i ks kd hus hud
      simp only [Option.map_eq_some_iff] at hc
      obtain ⟨y, hy, rfl⟩ := hc
      have h1 := opd_V hy hE
      simp only [mkOf] at hm
      split at hm
      · rename_i k n hb
        simp only [Option.some.injEq] at hm
        subst hm
        rw [hb] at h1
        simp only [V] at h1
        exact MkR.stay (v' := .int kd (kd.wrap n)) (execOp_value (s := convert s d (a.eval x)) rfl (by simp [convert, run_underlying hus, run_underlying hud, h1, Conv.intToInt])) fun _ => by simp [V]
      · cases hm
    · cases hc
  | indexAddr t x ix =>
    simp only [compOp] at hc
    split at hc
    case h_1 l e hu =>
      simp only [Option.bind_eq_some_iff, Option.map_eq_some_iff] at hc
      obtain ⟨n, hn, x', hx, i', hi, rfl⟩ := hc
      have h1 := opd_V hx (fun t ht => hE t (by simp [COp.tmps, ht]))
      have h2 := opd_V hi (fun t ht => hE t (by simp [COp.tmps, ht]))
      simp only [mkOf] at hm
      split at hm
      · rename_i b o k i hb hik
        split at hm
        · rename_i hlt
          simp only [Option.some.injEq] at hm
          subst hm
          rw [hb] at h1
          rw [hik] at h2
          simp only [V] at h1 h2
          obtain ⟨mm, hmm, hxe⟩ := h1
          refine MkR.stay (v' := .pointer (some ⟨mm.c, mm.s + (o + i.toNat * n), none⟩)) ?_ fun _ => by simp only [V]; exact ⟨mm, hmm, rfl⟩
          simp [execOp, Instr.indexAt, run_underlying hu, h2, hxe, asIntOf, Instr.sureAddr, hlt, sizeT_run hn, Addr.add_lit, Nat.add_assoc]
        · cases hm
      · cases hm
    case h_3 => cases hc
    rename_i e he0
    have he : sliceElem P t = some e := by simp [sliceElem, he0]
    simp only [Option.bind_eq_some_iff, Option.map_eq_some_iff] at hc
    obtain ⟨n, hn, x', hx, i', hi, rfl⟩ := hc
    have h1 := opd_V hx (fun t ht => hE t (by simp [COp.tmps, ht]))
    have h2 := opd_V hi (fun t ht => hE t (by simp [COp.tmps, ht]))
    simp only [mkOf] at hm
    split at hm
    · rename_i b o len cap ez tl k i hb hik
      split at hm
      · rename_i hlt
        simp only [Option.some.injEq] at hm
        subst hm
        rw [hb] at h1
        rw [hik] at h2
        simp only [V] at h1 h2
        obtain ⟨mm, cap', off, hmm, hez, hxe, hlc, ht, hoff, hfit⟩ := h1
        have hoff' := hoff.resolve_left (by omega)
        refine MkR.stay (v' := .pointer (some ⟨mm.c, mm.s + (o + i.toNat * n), none⟩)) ?_ fun _ => by simp only [V]; exact ⟨mm, hmm, rfl⟩
        simp [execOp, Instr.indexAt, run_underlying (sliceElem_und he), h2, hxe, asIntOf, hlt, sizeT_run hn, Addr.add_lit, hoff', Nat.add_assoc]
      · cases hm
    · cases hm
  | index t x i =>
    cases x with
    | const v =>
      cases v with
      | string s =>
        simp only [compOp] at hc
        split at hc
        · rename_i hu
          rw [Option.map_eq_some_iff] at hc
          obtain ⟨i', hi', rfl⟩ := hc
          have h1 := opd_V hi' (fun t ht => hE t (by simpa [COp.tmps] using ht))
          simp only [mkOf] at hm
          split at hm
          · rename_i k z hz
            rw [hz] at h1
            simp only [V] at h1
            split at hm
            · rename_i h0
              rw [Option.map_eq_some_iff] at hm
              obtain ⟨v, hv, rfl⟩ := hm
              rw [List.getElem?_map, Option.map_eq_some_iff] at hv
              obtain ⟨c, hc', rfl⟩ := hv
              have hg : s[z.toNat]? = some c := by
                rw [Array.getElem?_toList, Array.getElem?_eq_some_iff] at hc'
                obtain ⟨hlt, rfl⟩ := hc'
                exact getElem?_pos s z.toNat hlt
              exact MkR.stay (v' := .int .u8 c.toNat) (by
                have hev : a.eval (.const (.string s)) = .string s := rfl
                simp [execOp, hev, Instr.index, run_underlying hu, h1, asIntOf, h0, hg]) fun _ => by simp [V]
            · cases hm
          · cases hm
        · cases hc
      | _ => cases hc
    | tmp x =>
      simp only [compOp] at hc
      split at hc
      · rename_i l e hu
        obtain ⟨hgd, hop⟩ := guardB_some hc
        simp only [Bool.and_eq_true, beq_iff_eq] at hgd
        obtain ⟨hs, ha⟩ := hgd
        rw [Option.bind_eq_some_iff] at hop
        obtain ⟨x', hx', hop⟩ := hop
        rw [Option.map_eq_some_iff] at hop
        obtain ⟨i', hi', rfl⟩ := hop
        have h1 := opd_V hx' (fun t ht => hE t (by simp [COp.tmps, ht]))
        have h2 := opd_V hi' (fun t ht => hE t (by simp [COp.tmps, ht]))
        simp only [mkOf] at hm
        split at hm
        · rename_i cs k z e1 e2
          split at hm
          · rename_i h0
            rw [Option.map_eq_some_iff] at hm
            obtain ⟨c, hc', rfl⟩ := hm
            rw [e1] at h1
            rw [e2] at h2
            simp only [V] at h1 h2
            obtain ⟨xs, hxe, hxs⟩ := h1
            obtain ⟨v', hv1, hv2⟩ := VL.get hxs hc'
            have hg : xs[z.toNat]? = some v' := by simpa using hv1
            have hna : (isAgg e).run P w = .ok false w := isAggT_run ha
            exact MkR.stay (v' := v') (by
              simp [execOp, hxe, h2, Instr.index, run_underlying hu, asIntOf, h0.1, h0.2, sizeT_run hs, Go.part, hna, hg]) fun _ => hv2
          · cases hm
        · cases hm
      · cases hc
    | _ => cases hc
  | makeMap t r =>
    cases r with
    | none =>
      simp only [compOp, Option.map_eq_some_iff] at hc
      obtain ⟨_, _, rfl⟩ := hc
      simp only [mkOf, Option.some.injEq] at hm
      subst hm
      refine ⟨.map (some w.heap.size), w.alloc (.map #[] 0), by simp [execOp, Instr.makeMap], ⟨rfl, rfl, rfl⟩, .map #[] 0, rfl, .inr ⟨rfl, rfl, #[], 0, rfl, rfl, MapKept.stamped_empty 0⟩, fun ρ k _ hk => ?_⟩
      simp only [V]; exact ⟨_, hk, rfl⟩
    | some r => cases hc
  | mapUpdate t p x v =>
    simp only [compOp, Option.bind_eq_some_iff, Option.map_eq_some_iff] at hc
    obtain ⟨_, _, _, _, _, _, _, _, rfl⟩ := hc
    cases hm
  | lookup t p x ok =>
    simp only [compOp, Option.bind_eq_some_iff, Option.map_eq_some_iff] at hc
    obtain ⟨q, hq, p', hp, x', hx, rfl⟩ := hc
    have h1 := opd_V hp (fun t ht => hE t (by simp [COp.tmps, ht]))
    have h2 := opd_V hx (fun t ht => hE t (by simp [COp.tmps, ht]))
    simp only [mkOf, Option.map_eq_some_iff] at hm
    obtain ⟨v, hv, rfl⟩ := hm
    obtain ⟨v', hr, hV⟩ := mapGet_run (P := P) hS h1 h2 hq hv
    exact MkR.stay (v' := v') (execOp_value rfl hr) fun _ => hV
  | extract x ix =>
    simp only [compOp, Option.map_eq_some_iff] at hc
    obtain ⟨y, hy, rfl⟩ := hc
    have h1 := opd_V hy hE
    simp only [mkOf] at hm
    split at hm
    · rename_i vs hvs
      rw [Option.map_eq_some_iff] at hm
      obtain ⟨v, hv, rfl⟩ := hm
      rw [hvs] at h1
      simp only [V] at h1
      obtain ⟨us, hus, hl⟩ := h1
      obtain ⟨u, hu, hV⟩ := hl.get hv
      have hu' : us[ix]? = some u := by simpa using hu
      exact MkR.stay (v' := u) (by simp [execOp, hus, Instr.extract, hu']) fun _ => hV
    · cases hm
  | call c =>
    obtain ⟨callee, args, argTypes⟩ := c
    simp only [compOp, compCall] at hc
    split at hc
    · rw [Option.bind_eq_some_iff] at hc
      obtain ⟨l, hl, hc⟩ := hc
      obtain ⟨_, hc⟩ := guardB_some hc
      simp only [Option.some.injEq] at hc
      subst hc
      cases hm
    · simp only [Option.map_eq_some_iff] at hc
      obtain ⟨l, hl, hop⟩ := hc
      split at hop <;> (subst hop; cases hm)
    · simp only [Option.bind_eq_some_iff, Option.map_eq_some_iff] at hc
      obtain ⟨_, _, _, _, rfl⟩ := hc
      cases hm
    · split at hc
      · simp only [Option.bind_eq_some_iff, Option.map_eq_some_iff] at hc
        obtain ⟨_, _, _, _, _, _, rfl⟩ := hc
        cases hm
      · cases hc
    · split at hc
      · rename_i x t hxs ht
        have ha : args = #[x] := by rw [← Array.toArray_toList (xs := args), hxs]
        subst ha
        split at hc
        · rename_i q hq
          simp only [Option.map_eq_some_iff] at hc
          obtain ⟨y, hy, rfl⟩ := hc
          have h1 := opd_V hy hE
          simp only [mkOf, Option.map_eq_some_iff] at hm
          obtain ⟨es, hes, rfl⟩ := hm
          obtain ⟨k, e, _, _, hu, _⟩ := mapT_und hq
          have hat : argTypes[0]? = some t := ht
          refine MkR.stay (v' := .int .i64 es.length) ?_ fun _ => by simp [V]
          refine execOp_value (s := Builtin.len_ argTypes type #[a.eval x]) (by simp [execOp, resolve, invoke, builtin]) ?_
          have := mapLen_run (P := P) hS h1 hes (ty := type) hu
          simpa [Builtin.len_, hat] using this
        simp only [Option.bind_eq_some_iff, Option.map_eq_some_iff] at hc
        obtain ⟨e, he, y, hy, rfl⟩ := hc
        have h1 := opd_V hy hE
        simp only [mkOf] at hm
        split at hm
        · rename_i b o len cap ez tl hb
          simp only [Option.some.injEq] at hm
          subst hm
          rw [hb] at h1
          simp only [V] at h1
          obtain ⟨mm, cap', off, hmm, hez, hxe, _⟩ := h1
          refine MkR.stay (v' := .int .i64 len) ?_ fun _ => by simp [V]
          simp [execOp, resolve, invoke, builtin, Builtin.len_, ht, run_underlying (sliceElem_und he), hxe, goInt]
        · rename_i hb
          simp only [Option.some.injEq] at hm
          subst hm
          rw [hb] at h1
          simp only [V] at h1
          refine MkR.stay (v' := .int .i64 0) ?_ fun _ => by simp [V]
          simp [execOp, resolve, invoke, builtin, Builtin.len_, ht, run_underlying (sliceElem_und he), h1, goInt]
        · cases hm
      · cases hc
    · split at hc
      · split at hc
        · simp only [Option.map_eq_some_iff] at hc
          obtain ⟨l, hl, rfl⟩ := hc
          simp only [mkOf, Option.map_eq_some_iff] at hm
          obtain ⟨v, hv, rfl⟩ := hm
          obtain ⟨v', hr, hV⟩ := mm_run (P := P) (w := w) true argTypes type (opds_VL hl (fun t ht => hE t (by simpa [COp.tmps] using ht))) hv
          exact MkR.stay (v' := v') (execOp_value (s := Builtin.max_ argTypes type (args.map a.eval)) (by simp [execOp, resolve, invoke, builtin]) (by simpa using hr)) fun _ => hV
        · cases hc
      · cases hc
    · split at hc
      · split at hc
        · simp only [Option.map_eq_some_iff] at hc
          obtain ⟨l, hl, rfl⟩ := hc
          simp only [mkOf, Option.map_eq_some_iff] at hm
          obtain ⟨v, hv, rfl⟩ := hm
          obtain ⟨v', hr, hV⟩ := mm_run (P := P) (w := w) false argTypes type (opds_VL hl (fun t ht => hE t (by simpa [COp.tmps] using ht))) hv
          exact MkR.stay (v' := v') (execOp_value (s := Builtin.min_ argTypes type (args.map a.eval)) (by simp [execOp, resolve, invoke, builtin]) (by simpa using hr)) fun _ => hV
        · cases hc
      · cases hc
    · split at hc
      · rename_i s x t u hxs hts
        simp only [Option.bind_eq_some_iff] at hc
        obtain ⟨e, he, e', he', n, hn, b, hb, z, hz, s', hs, x', hx, hg⟩ := hc
        obtain ⟨hgd, hop⟩ := guardB_some hg
        simp only [Option.some.injEq] at hop
        subst hop
        simp only [Bool.and_eq_true, decide_eq_true_eq] at hgd
        obtain ⟨⟨⟨hn0, hb0⟩, hb4⟩, hzl⟩ := hgd
        obtain ⟨i, v, hi, hv, hV⟩ := zeroOf_V ν hz
        have ha : args = #[s, x] := by rw [← Array.toArray_toList (xs := args), hxs]
        have hat : argTypes = #[t, u] := by rw [← Array.toArray_toList (xs := argTypes), hts]
        subst ha; subst hat
        have h1 := opd_V hs (fun t ht => hE t (by simp [COp.tmps, ht]))
        have h2 := opd_V hx (fun t ht => hE t (by simp [COp.tmps, ht]))
        simp only [mkOf, Option.bind_eq_some_iff] at hm
        obtain ⟨q, hq, hm⟩ := hm
        have hT : AppT P t u n e i v := by
          refine ⟨sliceElem_und he, ⟨e', sliceElem_und he'⟩, hi, hv, ?_, ?_, ?_, hn0⟩
          · obtain ⟨i', hi', rfl⟩ := sizeT_info hn
            rw [hi] at hi'; simp only [Option.some.injEq] at hi'; subst hi'; rfl
          · have := hV.length; simp at this; omega
          · simp only [bytesT, hi, Option.map_some, Option.some.injEq] at hb; omega
        have := appendMk_run (P := P) (ty := type) hS hT h1 h2 hq hm
        simpa [execOp, resolve, invoke, builtin] using this
      · cases hc
    · split at hc
      · simp only [Option.bind_eq_some_iff, Option.map_eq_some_iff] at hc
        obtain ⟨_, _, _, _, _, _, _, _, _, _, rfl⟩ := hc
        cases hm
      · cases hc
    · split at hc
      · split at hc
        · simp only [Option.map_eq_some_iff] at hc
          obtain ⟨_, _, rfl⟩ := hc
          cases hm
        simp only [Option.bind_eq_some_iff, Option.map_eq_some_iff] at hc
        obtain ⟨_, _, _, _, _, _, rfl⟩ := hc
        cases hm
      · cases hc
    · cases hc
  | store t x v =>
    simp only [compOp, Option.bind_eq_some_iff, Option.map_eq_some_iff] at hc
    obtain ⟨_, _, _, _, _, _, rfl⟩ := hc
    cases hm
  | _ => simp only [compOp] at hc; cases hc
end
end Go.Cs

/- Operations that change memory, and calls. -/
namespace Go.Cs
open Go Go.RowKit

/-- The two machines' memories. Beyond the clean machine's heap, up to 'L', nothing is laid down yet. -/
structure St (K : Nat → Option Obj) (B : Bs) (L : Nat) (ν : Mu) (H : CHeap) (w : World) : Prop where
  sim : Sim K B ν H w
  dom : ∀ b, H.length ≤ b → b < L → ν b = none

structure Ext (L : Nat) (H : CHeap) (ν : Mu) (H' : CHeap) (ν' : Mu) : Prop where
  len : H.length ≤ H'.length
  same : ∀ b, b < H.length → ν' b = ν b
  far : ∀ b, L ≤ b → ν' b = ν b

theorem Ext.refl (L : Nat) (H : CHeap) (ν : Mu) : Ext L H ν H ν := ⟨Nat.le_refl _, fun _ _ => rfl, fun _ _ => rfl⟩
theorem Ext.trans {L : Nat} {H H1 H2 : CHeap} {ν ν1 ν2 : Mu} (h : Ext L H ν H1 ν1) (k : Ext L H1 ν1 H2 ν2) : Ext L H ν H2 ν2 :=
  ⟨Nat.le_trans h.len k.len, fun b hb => (k.same b (Nat.lt_of_lt_of_le hb h.len)).trans (h.same b hb), fun b hb => (k.far b hb).trans (h.far b hb)⟩
theorem Ext.mono {K : Nat → Option Obj} {B : Bs} {L : Nat} {H H' : CHeap} {ν ν' : Mu} {w : World} (h : Ext L H ν H' ν') (hS : St K B L ν H w) : ∀ b m, ν b = some m → ν' b = some m := by
  intro b m hm
  rcases Nat.lt_or_ge b H.length with hb | hb
  · rw [h.same b hb]; exact hm
  · rcases Nat.lt_or_ge b L with hl | hl
    · rw [hS.dom b hb hl] at hm; cases hm
    · rw [h.far b hl]; exact hm

/-- An activation of a function, or a round. -/
def Fr (rd : Option Nat) : Fence := { Fence.wide with round := rd }

theorem Fr_depth {rd : Option Nat} {p : Prop} (h : (Fr rd).depth.isSome = true) : p := by
  have : (none : Option Nat).isSome = true := h
  cases this

/-- What the numbers of loops over functions stand for. -/
def RndOf (P : Program) (z N _fn : Nat) (ps : Array Tmp) (a c : Code) : Prop := z % 2 = 0 ∧ (∀ t ∈ ps.toList, t < N) ∧ ∃ f0 f, roundAt P z = some (f0, f, ps, a, c) ∧ f.ntmps = N

/-- What a start owes. -/
structure BOk (P : Program) (B : Bs) : Prop where
  rnd : B.rnd = RndOf P
  glob : GlobOk P B.toWorld

/-- How a round is left. -/
def XC (v : CV) (x : Exit) : Prop := (v = .i 0 ∧ x = .normal) ∨ (v = .i 1 ∧ x = .ret) ∨ ∃ id : Nat, v = .i (id + 2) ∧ x = .exit id

/-- What the model's calls owe, and its rounds. -/
def SimF (P : Program) (F : CallF) : Prop := ∀ f args H r, F f args H = some r → H.length ≤ r.2.length ∧
  (f < RB → (∃ fn, P.funcs[f]? = some fn ∧ fn.name ≠ "runtime.NumGoroutine" ∧ fn.body.isSome = true) ∧
    ∀ K B L ν w (args' : Array Value), BOk P B → r.2.length ≤ L → St K B L ν H w → VL ν args args'.toList →
      Calls P f args' w fun e w' => ∃ v' ν', e = .returned v' ∧ St K B L ν' r.2 w' ∧ V ν' r.1 v' ∧ Ext L H ν r.2 ν') ∧
  (∀ z N fn ps a c, RndOf P z N fn ps a c →
    (f = RB + z → ∃ env, r.1 = .tup env ∧ env.length = N ∧ ∀ K B L ν w tmps l dp, BOk P B → r.2.length ≤ L → St K B L ν H w → (∀ t, V ν (args.getD t .undef) (tmps.getD t undef)) → N ≤ tmps.size →
      a.wpIn (Fr (some l)) dp P (fun x a1 w1 => ∃ ν', x = .normal ∧ a1.defers = [] ∧ N ≤ a1.tmps.size ∧ (∀ t, V ν' (env.getD t .undef) (a1.tmps.getD t undef)) ∧ St K B L ν' r.2 w1 ∧ Ext L H ν r.2 ν') { tmps, defers := [] } w) ∧
    (f = RB + z + 1 → ∀ K B L ν w tmps l dp, BOk P B → r.2.length ≤ L → St K B L ν H w → (∀ t, V ν (args.getD t .undef) (tmps.getD t undef)) → N ≤ tmps.size →
      c.wpIn (Fr (some l)) dp P (fun x a1 w1 => ∃ ν', XC r.1 x ∧ St K B L ν' r.2 w1 ∧ Ext L H ν r.2 ν') { tmps, defers := [] } w))

theorem comp_nodefer {P : Program} {o : Oper} {op : COp} (h : compOp P o.op = some op) : ∀ c, o.op ≠ .defer c := by
  intro c e
  rw [e] at h
  cases h

section
variable {P : Program} {F : CallF} {ν : Mu} {E : Env} {a : Act} {w : World} {H : CHeap} {K : Nat → Option Obj} {B : Bs} {L : Nat} {rd : Option Nat} {dp : Nat}

theorem Sim.free (h : Sim K B ν H w) : K w.heap.size = none := by
  cases hk : K w.heap.size with
  | none => rfl
  | some o => have := (Array.getElem?_eq_some_iff.1 (h.kept _ _ hk)).1; omega

/-- A new block of both. -/
theorem St.push (h : St K B L ν H w) (hL : H.length < L) {w' : World} {arr : Array Value} {T : TypeId} (hh : w'.heap = w.heap.push (.cells arr T)) (hs : Streams w w') {k : Blk} (hk : k.mode = .rw) (hl : k.cells.length ≤ arr.size)
    (hv : ∀ (i : Nat) (x : CV), k.cells[i]? = some x → ∃ v, arr[i]? = some v ∧ V ν x v) :
    St K B L (ν.set H.length ⟨w.heap.size, 0, k.esz, arr.size⟩) (H ++ [k]) w' ∧ Ext L H ν (H ++ [k]) (ν.set H.length ⟨w.heap.size, 0, k.esz, arr.size⟩) := by
  have hmono : ∀ b m, ν b = some m → (ν.set H.length ⟨w.heap.size, 0, k.esz, arr.size⟩) b = some m := by
    intro b m hm
    have hb : b ≠ H.length := fun e => by rw [e, h.dom _ (Nat.le_refl _) hL] at hm; cases hm
    rw [Mu.set_ne _ _ hb]; exact hm
  have h1 := (h.sim.alloc (.cells arr T)).same (w' := w') hh hs.os hs.tape hs.output
  have h2 := h1.congr (ν := ν.set H.length ⟨w.heap.size, 0, k.esz, arr.size⟩) (fun b hb => Mu.set_ne _ _ (by omega)) hmono
  have h3 := h2.adopt (c := w.heap.size) (arr := arr) (T := T) (s := 0) (by simp) h.sim.base.size hk (by simpa using hl) (Mu.set_self _ _ _)
    (fun i x hx => by obtain ⟨v, hv', hV⟩ := hv i x hx; exact ⟨v, by simpa using hv', V.mono hmono _ _ hV⟩)
  have hK : (fun d => if d = w.heap.size then none else if d = w.heap.size then some (Obj.cells arr T) else K d) = K := by
    funext d
    by_cases hd : d = w.heap.size
    · rw [if_pos hd, hd]; exact h.sim.free.symm
    · rw [if_neg hd, if_neg hd]
  rw [hK] at h3
  exact ⟨⟨h3, fun b hb hl => by simp at hb; rw [Mu.set_ne _ _ (by omega)]; exact h.dom b (by omega) hl⟩, ⟨by simp, fun b hb => Mu.set_ne _ _ (by omega), fun b hb => Mu.set_ne _ _ (by omega)⟩⟩

theorem St.pushF (h : St K B L ν H w) (hL : H.length < L) {w' : World} {x : Obj} (hh : w'.heap = w.heap.push x) (hs : Streams w w') {k : Blk} (hf : Fresh ν k ⟨w.heap.size, 0, k.esz, sizeOfObj x⟩ x) :
    St K B L (ν.set H.length ⟨w.heap.size, 0, k.esz, sizeOfObj x⟩) (H ++ [k]) w' ∧ Ext L H ν (H ++ [k]) (ν.set H.length ⟨w.heap.size, 0, k.esz, sizeOfObj x⟩) := by
  rcases hf with ⟨h1, h2, h3, arr, T, rfl, h5, h6, h7⟩ | ⟨h1, h0, es, cl, rfl, h3⟩
  · exact h.push hL hh hs h1 h6 h7
  · have hmono : ∀ b m, ν b = some m → (ν.set H.length ⟨w.heap.size, 0, k.esz, 0⟩) b = some m := by
      intro b m hm
      have hb : b ≠ H.length := fun e => by rw [e, h.dom _ (Nat.le_refl _) hL] at hm; cases hm
      rw [Mu.set_ne _ _ hb]; exact hm
    have g2 := h.sim.congr (ν := ν.set H.length ⟨w.heap.size, 0, k.esz, 0⟩) (fun b hb => Mu.set_ne _ _ (by omega)) hmono
    have g3 := g2.newObj (e := k.esz) (z := 0) (Mu.set_self _ _ _) h.sim.free h1 (MapR.objR h0 ⟨h3.1.mono hmono, h3.2⟩)
    have g4 := g3.same (w' := w') hh hs.os hs.tape hs.output
    exact ⟨⟨g4, fun b hb hl => by simp at hb; rw [Mu.set_ne _ _ (by omega)]; exact h.dom b (by omega) hl⟩, ⟨by simp, fun b hb => Mu.set_ne _ _ (by omega), fun b hb => Mu.set_ne _ _ (by omega)⟩⟩

/-- A row that is left alone by both is written. -/
theorem Sim.rekeep (h : Sim K B ν H w) {c : Nat} {arr arr2 : Array Value} {T : TypeId} (hc : K c = some (.cells arr T)) (hB : B.heap.size ≤ c) :
    Sim (fun d => if d = c then some (.cells arr2 T) else K d) B ν H (w.setRow c arr2) := by
  have hw := h.kept c _ hc
  refine ⟨h.base.trans ⟨rfl, rfl, rfl, by simp, fun q hq => setRow_other w c q _ (by omega)⟩, fun d x hx => ?_, fun b k m hb hd hd' hm => ?_, h.inj, fun b k m hb hd hm => ?_⟩
  · split at hx
    · rename_i e; subst e; simp only [Option.some.injEq] at hx; subst hx; exact setRow_heap w d arr arr2 T (0, 0) hw
    · rename_i e; rw [setRow_other w c d _ e]; exact h.kept d x hx
  rotate_left
  · obtain ⟨ob, hw', hr, hB', hK'⟩ := h.mp b k m hb hd hm
    have hne : m.c ≠ c := h.kept_ne hc hB hb (by rw [hd]; decide) hm
    exact ⟨ob, by rw [setRow_other w c m.c _ hne]; exact hw', hr, hB', by rw [if_neg hne]; exact hK'⟩
  · obtain ⟨a, T', fz, hw', hcc, hr, hro⟩ := h.blk b k m hb hd hd' hm
    have hne : m.c ≠ c := h.kept_ne hc hB hb hd hm
    refine ⟨a, T', fz, by rw [setRow_other w c m.c _ hne]; exact hw', hcc, fun e => ?_, hro⟩
    obtain ⟨c1, c2, c3, c4, c5, c6⟩ := hr e
    exact ⟨c1, c2, c3, c4, c5, by rw [if_neg hne]; exact c6⟩

/-- What follows an operation. -/
def Next.after (rd : Option Nat) (dp : Nat) (P : Program) (o : Oper) (a : Act) (w : World) (K : Nat → Option Obj) (B : Bs) (L : Nat) (H : CHeap) (ν : Mu) (r : CV × CHeap) : Prop :=
  ∀ (next : Act → World → Prop) (Q : Exit → Act → World → Prop), (∀ v' w' ν', St K B L ν' r.2 w' → V ν' r.1 v' → Ext L H ν r.2 ν' → next (a.put o.dst v') w') → o.wpIn (Fr rd) dp P a w next Q

theorem after_value {o : Oper} (hnd : ∀ c, o.op ≠ .defer c) {r : CV × CHeap} {v' : Value} {w' : World} {ν' : Mu} (h : (execOp a.eval o).run P w = .ok (.value v') w') (hS : St K B L ν' r.2 w') (hV : V ν' r.1 v') (hE : Ext L H ν r.2 ν') : Next.after rd dp P o a w K B L H ν r :=
  fun next Q hn => by
    refine ⟨fun _ _ => trivial, ?_⟩
    rw [Oper.semAt_eq _ _ _ hnd, h]
    exact hn v' w' ν' hS hV hE

theorem after_skip {o : Oper} (hnd : ∀ c, o.op ≠ .defer c) {r : CV × CHeap} {w' : World} {ν' : Mu} (h : (execOp a.eval o).run P w = .ok .skip w') (hS : St K B L ν' r.2 w') (hr : r.1 = .undef) (hE : Ext L H ν r.2 ν') : Next.after rd dp P o a w K B L H ν r :=
  fun next Q hn => by
    refine ⟨fun _ _ => trivial, ?_⟩
    rw [Oper.semAt_eq _ _ _ hnd, h]
    exact hn undef w' ν' hS (by rw [hr]; simp only [V]; exact ⟨#[], rfl, by simp [VL]⟩) hE

theorem steady_sim (hG : GlobOk P B.toWorld) (hS : St K B L ν H w) {o : Oper} {op : COp} (hc : compOp P o.op = some op) (hE : ∀ t ∈ op.tmps, V ν (E t) (a.tmps.getD t undef)) {m : Option Blk × (Nat → CV)} (hm : mkOf op E H = some m) (hL : (made H m).2.length ≤ L) :
    Next.after rd dp P o a w K B L H ν (made H m) := by
  obtain ⟨v', w', hr, hs, hh⟩ := mk_sim (P := P) hG hS.sim hc hE hm
  obtain ⟨ob, f⟩ := m
  cases ob with
  | none =>
    obtain ⟨hw, hv⟩ := hh
    exact after_value (comp_nodefer hc) hr ⟨hS.sim.same hw hs.os hs.tape hs.output, hS.dom⟩ (hv _) (Ext.refl _ _ _)
  | some k =>
    obtain ⟨x, hw, hf, hp⟩ := hh
    obtain ⟨h1, h2⟩ := hS.pushF (by simp [made] at hL; omega) hw hs hf
    exact after_value (comp_nodefer hc) hr h1 (hp _ _ (h2.mono hS) (Mu.set_self _ _ _)) h2

theorem store_sim (hS : St K B L ν H w) {t : TypeId} {n b o : Nat} {x : CV} {xv : Value} (hn : sizeT P t = some n) {m : Tgt} (hm : ν b = some m) (hx : V ν x xv) (hl : (cellsOf x).length = n) {H' : CHeap} (hs : storeN H b o (cellsOf x) = some H') :
    ∃ w', (storeVar t ⟨m.c, m.s + o, none⟩ xv).run P w = .ok () w' ∧ St K B L ν H' w' ∧ H'.length = H.length := by
  obtain ⟨arr, T, hw, hfit, h1, hS', hlen⟩ := hS.sim.write hs hm hx.cells
  have hsz : xv.cells.size = n := by have := hx.cells.length; simp at this; omega
  have hr := run_storeCells_at P m.c (m.s + o) T xv.cells.toList 0 arr w hw (by simpa using hfit) h1
  simp only [Nat.add_zero] at hr
  refine ⟨_, ?_, ⟨hS', fun b' hb' hl' => hS.dom b' (by omega) hl'⟩, hlen⟩
  simp only [storeVar, Sem.run_bind, sizeT_run hn, Result.andThen_ok, hsz, ne_eq, not_true_eq_false, if_false, hr]

theorem row_sim (hS : St K B L ν H w) {b o : Nat} {cs : List CV} {vs : List Value} {m : Tgt} (hm : ν b = some m) (hv : VL ν cs vs) {H' : CHeap} (hs : storeN H b o cs = some H') :
    ∃ w', (storeCells ⟨m.c, m.s + o, none⟩ vs).run P w = .ok () w' ∧ St K B L ν H' w' ∧ H'.length = H.length := by
  obtain ⟨arr, T, hw, hfit, h1, hS', hlen⟩ := hS.sim.write hs hm hv
  have hr := run_storeCells_at P m.c (m.s + o) T vs 0 arr w hw (by simpa using hfit) h1
  simp only [Nat.add_zero] at hr
  exact ⟨_, hr, ⟨hS', fun b' hb' hl' => hS.dom b' (by omega) hl'⟩, hlen⟩

/-- Appending where there is room: in the model the row is written in place. -/
theorem append_room {t u ty e : TypeId} {n : Nat} {i : TypeInfo} {z : Value} (hT : AppT P t u n e i z) {ad : Addr} {sLen sCap : Nat} {x : Value} {k : Nat} {new : Array Value} (hx : (Builtin.lenOf x).run P w = .ok k w)
    (hroom : sLen + k ≤ sCap) (hnew : (Builtin.firstCells n k x).run P w = .ok new w) {w' : World} (hst : (storeCells (ad.add (sLen * n)) new.toList).run P w = .ok () w') :
    (Builtin.append_ #[t, u] ty #[.slice (some ad) sLen sCap, x]).run P w = .ok (.slice (some ad) (sLen + k) sCap) w' := by
  obtain ⟨e', hu⟩ := hT.hu
  simp [Builtin.append_, run_underlying hT.ht, run_underlying hu, sizeOf, typeInfo, hT.hi, hx, hT.hn, hroom, hnew, hst]

theorem append_sim (hS : St K B L ν H w) {t u ty e : TypeId} {n : Nat} {i : TypeInfo} {z : Value} (hT : AppT P t u n e i z) {s x : CV} {sv xv : Value} (hs : V ν s sv) (hx : V ν x xv) {q : Nat × List CV} (he : elems H n x = some q)
    {r : CV × CHeap} (h : appendTo H n s q.1 q.2 = some r) (hL : r.2.length ≤ L) : ∃ v' w' ν', (Builtin.append_ #[t, u] ty #[sv, xv]).run P w = .ok v' w' ∧ St K B L ν' r.2 w' ∧ V ν' r.1 v' ∧ Ext L H ν r.2 ν' := by
  -- where nothing that exists is changed, it is the steady one
  have steady : ∀ m, appendMk H n s q.1 q.2 = some m → r = made H m → ∃ v' w' ν', (Builtin.append_ #[t, u] ty #[sv, xv]).run P w = .ok v' w' ∧ St K B L ν' r.2 w' ∧ V ν' r.1 v' ∧ Ext L H ν r.2 ν' := by
    intro m hm hr
    subst hr
    obtain ⟨v', w', hrun, hst, hh⟩ := appendMk_run (P := P) (ty := ty) hS.sim hT hs hx he hm
    have hrun' : (Builtin.append_ #[t, u] ty #[sv, xv]).run P w = .ok v' w' := by
      simp only [Sem.run_bind] at hrun
      generalize (Builtin.append_ #[t, u] ty #[sv, xv]).run P w = g at *
      cases g with
      | ok v2 w2 => simp at hrun; obtain ⟨rfl, rfl⟩ := hrun; rfl
      | halt x w2 => simp at hrun
    obtain ⟨ob, f⟩ := m
    cases ob with
    | none =>
      obtain ⟨hw, hv⟩ := hh
      exact ⟨v', w', ν, hrun', ⟨hS.sim.same hw hst.os hst.tape hst.output, hS.dom⟩, hv _, Ext.refl _ _ _⟩
    | some k =>
      obtain ⟨x, hw, hf, hp⟩ := hh
      obtain ⟨h1, h2⟩ := hS.pushF (by simp [made] at hL; omega) hw hst hf
      exact ⟨v', w', _, hrun', h1, hp _ _ (h2.mono hS) (Mu.set_self _ _ _), h2⟩
  unfold appendTo at h
  split at h
  · split at h
    · rename_i h0
      simp only [Option.some.injEq] at h
      exact steady (none, fun _ => .nilSlice) (by unfold appendMk; simp only [if_pos h0]) h.symm
    · rename_i h0
      split at h
      · rename_i hmax
        simp only [Option.some.injEq] at h
        exact steady (some ⟨q.2, .rw, n⟩, fun k => .slice k 0 q.1 q.1 n true) (by unfold appendMk; simp only [if_neg h0, if_pos hmax]) h.symm
      · cases h
  · rename_i b o len cap ez tail
    split at h
    · rename_i h0
      simp only [Option.some.injEq] at h
      exact steady (none, fun _ => .slice b o len cap ez tail) (by unfold appendMk; simp only [if_pos h0]) h.symm
    · rename_i h0
      have hlen := lenOf_run (P := P) (w := w) hx he
      obtain ⟨new, hnv, hns, hnew⟩ := elems_run (P := P) hS.sim hx he
      have hs2 := hs
      simp only [V] at hs2
      obtain ⟨mm, cap', off, hb, hez, hsv, hl, htail, hoff, hfit⟩ := hs2
      have hcc : cap ≤ cap' := by split at htail <;> omega
      split at h
      · -- room in the clean machine too
        rename_i hroom
        rw [Option.map_eq_some_iff] at h
        obtain ⟨H', hH', rfl⟩ := h
        have hoff' := hoff.resolve_left (by omega)
        obtain ⟨w', hst, hS', hlen'⟩ := row_sim (P := P) hS hb hnv hH'
        subst hsv
        refine ⟨_, w', ν, append_room hT hlen (by omega) (hnew w rfl) (w' := w') (by rw [Addr.add_lit, hoff', Nat.add_assoc]; exact hst), hS', ?_, ⟨by dsimp only; omega, fun _ _ => rfl, fun _ _ => rfl⟩⟩
        simp only [V]
        exact ⟨mm, cap', off, hb, hez, rfl, by omega, htail, hoff, hfit⟩
      · rename_i hroom
        split at h
        · rename_i hmax
          rw [Option.bind_eq_some_iff] at h
          obtain ⟨old, hold, h⟩ := h
          cases tail with
          | false =>
            simp only [Bool.false_eq_true, if_false, Option.some.injEq] at h
            exact steady (some ⟨old ++ q.2, .rw, n⟩, fun k => .slice k 0 (len + q.1) (len + q.1) n true) (by unfold appendMk; simp only [if_neg h0]; rw [if_pos ⟨trivial, by omega, hmax⟩, hold]; rfl) h.symm
          | true =>
            simp only [if_true] at h htail
            split at h
            · rename_i blk hblk
              split at h
              · rename_i hcond
                obtain ⟨hrw, hee, hend, hleaf⟩ := hcond
                simp only [Option.some.injEq] at h
                subst h
                have holdc : old.length = len * n := by
                  split at hold
                  · rename_i hl0; simp only [Option.some.injEq] at hold; subst hold; subst hl0; simp
                  · exact (hS.sim.loadN hold hb).1
                have hnewl : q.2.length = q.1 * n := by have := hnv.length; simp at this; omega
                by_cases hin : len + q.1 ≤ cap'
                · -- the model writes in place
                  obtain ⟨arr, T, hwm, hasz, hesz, hfits, hBc, hown⟩ := hS.sim.own hblk hrw hb
                  have hKn : K mm.c = none := by
                    exact hS.sim.loose hblk (.inl hrw) hb
                  have hoff' := hoff.resolve_left (by omega)
                  rw [hoff', hez, hee] at hfit
                  have h1 : (len + q.1) * n ≤ cap' * n := Nat.mul_le_mul_right _ hin
                  rw [Nat.add_mul] at h1
                  have hfit2 : mm.s + (o + len * n) + new.toList.length ≤ arr.size := by
                    rw [hasz]
                    simp only [Array.length_toList, hns]
                    omega
                  have hr := run_storeCells_at P mm.c (mm.s + (o + len * n)) T new.toList 0 arr w hwm (by simpa using hfit2) (hnv.leaf hleaf)
                  simp only [Nat.add_zero] at hr
                  generalize harr2 : (arr.toList.take (mm.s + (o + len * n)) ++ new.toList ++ arr.toList.drop (mm.s + (o + len * n) + new.toList.length)).toArray = arr2 at hr
                  have hsz2 : arr2.size = arr.size := by rw [← harr2]; simp at hfit2 ⊢; omega
                  have hmono : ∀ b' m', ν b' = some m' → (ν.set H.length ⟨mm.c, mm.s + o, n, arr2.size⟩) b' = some m' := by
                    intro b' m' hm'
                    have hb' : b' ≠ H.length := fun e => by rw [e, hS.dom _ (Nat.le_refl _) (by simp at hL; omega)] at hm'; cases hm'
                    rw [Mu.set_ne _ _ hb']; exact hm'
                  have hre := hown.rekeep (c := mm.c) (arr := arr) (arr2 := arr2) (T := T) (by simp) hBc
                  have hre2 := hre.congr (ν := ν.set H.length ⟨mm.c, mm.s + o, n, arr2.size⟩) (fun b' hb' => Mu.set_ne _ _ (by simp at hb'; omega)) hmono
                  have had := hre2.adopt (k := ⟨old ++ q.2, .rw, n⟩) (c := mm.c) (arr := arr2) (T := T) (s := mm.s + o) (by simp) hBc rfl
                    (by refine ⟨fun e => ?_, ?_⟩
                        · have := hT.hpos; dsimp only at e; omega
                        · simp only [List.length_append, holdc, hnewl, hsz2, hasz]; omega) (by simp only [List.length_set]; exact Mu.set_self _ _ _) (fun i c hi => by
                      dsimp only at hi
                      by_cases hlt : i < old.length
                      · rw [List.getElem?_append_left hlt] at hi
                        have hl0 : len ≠ 0 := fun e => by rw [e] at holdc; simp at holdc; rw [holdc] at hlt; simp at hlt
                        rw [if_neg hl0] at hold
                        obtain ⟨_, vs, hvs, hcell⟩ := hS.sim.loadN hold hb
                        obtain ⟨v, hv, hV⟩ := hvs.get hi
                        have hc2 := hcell i v hv
                        simp only [World.cell?, hwm] at hc2
                        refine ⟨v, ?_, V.mono hmono _ _ hV⟩
                        have hc3 : arr[mm.s + o + i]? = some v := by simpa using hc2
                        have hlt2 := (Array.getElem?_eq_some_iff.1 hc3).1
                        rw [← harr2, List.getElem?_toArray, List.append_assoc, List.getElem?_append_left (by simp; omega), List.getElem?_take, if_pos (by omega)]
                        simpa using hc3
                      · rw [List.getElem?_append_right (by omega)] at hi
                        obtain ⟨v, hv, hV⟩ := hnv.get hi
                        refine ⟨v, ?_, V.mono hmono _ _ hV⟩
                        have hvl := (List.getElem?_eq_some_iff.1 hv).1
                        rw [← harr2, List.getElem?_toArray, List.append_assoc, List.getElem?_append_right (by simp; omega), List.getElem?_append_left (by simp at hfit2 hvl ⊢; omega), ← hv]
                        congr 1
                        simp at hfit2 ⊢
                        omega)
                  have hKK : (fun d => if d = mm.c then none else if d = mm.c then some (Obj.cells arr2 T) else if d = mm.c then some (Obj.cells arr T) else K d) = K := by
                    funext d
                    by_cases hd : d = mm.c
                    · rw [if_pos hd, hd, hKn]
                    · rw [if_neg hd, if_neg hd, if_neg hd]
                  rw [hKK] at had
                  subst hsv
                  refine ⟨_, _, _, append_room hT hlen hin (hnew w rfl) (by rw [Addr.add_lit, hoff', Nat.add_assoc]; exact hr), ⟨had, fun b' hb' hl' => ?_⟩, ?_, ⟨by simp, fun b' hb' => Mu.set_ne _ _ (by omega), fun b' hb' => Mu.set_ne _ _ (by simp at hL; omega)⟩⟩
                  · simp at hb'
                    rw [Mu.set_ne _ _ (by omega)]
                    exact hS.dom b' (by omega) hl'
                  · simp only [V]
                    refine ⟨_, cap', off, Mu.set_self _ _ _, rfl, rfl, hin, by simp; omega, .inr (by rw [hoff']; simp), ?_⟩
                    dsimp only
                    rw [hsz2, hasz, hoff']
                    omega
                · -- the model makes a new row
                  have hdead : St K B L ν (H.set b { blk with mode := .dead }) w := ⟨hS.sim.kill hblk, fun b' hb' hl' => hS.dom b' (by simpa using hb') hl'⟩
                  have : ∃ olda : Array Value, VL ν old olda.toList ∧ olda.size = len * n ∧ ∀ w', w'.heap = w.heap → (Builtin.firstCells n len sv).run P w' = .ok olda w' := by
                    have he' : elems H n (.slice b o len cap ez true) = some (len, old) := by
                      unfold elems
                      dsimp only
                      split at hold
                      · rename_i h00
                        simp only [Option.some.injEq] at hold; subst hold; subst h00
                        rfl
                      · rename_i h00
                        rw [if_neg h00, hold]; rfl
                    exact elems_run (P := P) hS.sim hs he'
                  obtain ⟨olda, hov, hos, holdr⟩ := this
                  rw [hsv] at holdr
                  subst hsv
                  obtain ⟨cap2, rest, hr, hge, hsz⟩ := append_grow (P := P) (w := w) (ty := ty) hT hlen (by omega) hmax holdr hnew hos hns
                  obtain ⟨h1, h2⟩ := hdead.push (by simp at hL ⊢; omega) (k := ⟨old ++ q.2, .rw, n⟩) (w' := w.drew.alloc (.cells (olda ++ new ++ rest) e)) (arr := olda ++ new ++ rest) (T := e) rfl ⟨rfl, rfl, rfl⟩ rfl
                    (by
                      dsimp only
                      rw [hsz, List.length_append, holdc, hnewl, ← Nat.add_mul]
                      exact Nat.mul_le_mul_right _ hge)
                    (fun j c hj => by
                      obtain ⟨v, hv, hV⟩ := (hov.append hnv).get hj
                      refine ⟨v, ?_, hV⟩
                      have hjl : j < (olda ++ new).size := by have := (List.getElem?_eq_some_iff.1 hv).1; simpa using this
                      rw [Array.getElem?_append_left hjl, ← Array.getElem?_toList, Array.toList_append]
                      exact hv)
                  refine ⟨_, _, _, hr, h1, ?_, ⟨by simp, fun b' hb' => ?_, fun b' hb' => h2.far b' hb'⟩⟩
                  · simp only [V]
                    refine ⟨_, cap2, 0, by rw [List.length_set]; exact Mu.set_self _ _ _, rfl, rfl, hge, by simp; exact hge, .inr (by simp), ?_⟩
                    dsimp only
                    rw [hsz]
                    omega
                  · rw [List.length_set]
                    exact Mu.set_ne _ _ (by omega)
              · cases h
            · cases h
        · cases h
  · cases h
end
end Go.Cs

/- The clean machine's denotation without fuel, and its equations. -/
namespace Go.Cs
open Go

/-- As defined as: what the one side gives the other gives. -/
def Le {α : Type} (x y : Option α) : Prop := ∀ r, x = some r → y = some r

theorem Le.refl {α : Type} (x : Option α) : Le x x := fun _ h => h
theorem Le.trans {α : Type} {x y z : Option α} (h : Le x y) (k : Le y z) : Le x z := fun r e => k r (h r e)
theorem Le.none {α : Type} (y : Option α) : Le Option.none y := fun _ h => by cases h
theorem Le.bind {α β : Type} {x y : Option α} {f g : α → Option β} (h : Le x y) (k : ∀ a, Le (f a) (g a)) : Le (x.bind f) (y.bind g) := by
  intro r e
  cases hx : x with
  | none => rw [hx] at e; cases e
  | some a => rw [hx] at e; rw [h a hx]; exact k a r e
theorem Le.map {α β : Type} {x y : Option α} (f : α → β) (h : Le x y) : Le (x.map f) (y.map f) := by
  intro r e
  cases hx : x with
  | none => rw [hx] at e; cases e
  | some a => rw [hx] at e; rw [h a hx]; exact e

def CallF.le (F G : CallF) : Prop := ∀ f a H, Le (F f a H) (G f a H)

theorem yieldBody_le {F G : CallF} (h : F.le G) (b z : Nat) (r : CV × CHeap) : Le (yieldBody F b z r) (yieldBody G b z r) := by
  unfold yieldBody
  split
  · split
    · exact Le.bind (h _ _ _) fun _ => Le.refl _
    · exact Le.refl _
  · exact Le.refl _
theorem yieldOf_le {F G : CallF} (h : F.le G) (b : Nat) (args : List CV) (H : CHeap) : Le (yieldOf F b args H) (yieldOf G b args H) := by
  unfold yieldOf
  split
  · split
    · exact Le.bind (h _ _ _) fun _ => yieldBody_le h _ _ _
    · exact Le.refl _
  · exact Le.refl _

theorem rangeIn_le {F G : CallF} (h : F.le G) (g : CV) (ps : List Nat) (n z : Nat) (E : Env) (H : CHeap) : Le (rangeIn F g ps n z E H) (rangeIn G g ps n z E H) := by
  unfold rangeIn
  split
  · split
    · exact h _ _ _
    · exact Le.refl _
  · exact Le.refl _

theorem opc_le {F G : CallF} (h : F.le G) (op : COp) (E : Env) (H : CHeap) : Le (opc F op E H) (opc G op E H) := by
  unfold opc
  cases op with
  | call f args => exact h _ _ _
  | callv g args =>
    dsimp only
    cases E.ev g <;> first | exact Le.refl _ | exact yieldOf_le h _ _ _ | (dsimp only; split <;> first | exact h _ _ _ | exact Le.refl _)
  | callm g args tbl =>
    dsimp only
    split
    · split
      · exact h _ _ _
      · exact Le.refl _
    · exact Le.bind (Le.refl _) fun _ => h _ _ _
    · exact yieldOf_le h _ _ _
    · exact Le.refl _
  | invk name x args tbl =>
    dsimp only
    split
    · exact Le.bind (Le.refl _) fun _ => h _ _ _
    · exact Le.refl _
  | _ => exact Le.refl _

theorem evStmt_le {F G : CallF} (h : F.le G) (s : CStmt) (E : Env) (H : CHeap) : Le (evStmt F s E H) (evStmt G s E H) := by
  unfold evStmt
  cases wanted s.guard E
  · exact Le.refl _
  · exact Le.map _ (opc_le h _ _ _)

theorem evOps_le {F G : CallF} (h : F.le G) : ∀ (l : List CStmt) (E : Env) (H : CHeap), Le (evOps F l E H) (evOps G l E H)
  | [], _, _ => Le.refl _
  | s :: r, E, H => by
    unfold evOps
    exact Le.bind (evStmt_le h s E H) fun p => evOps_le h r p.1 p.2

theorem evD_le {F G : CallF} (h : F.le G) : ∀ (l : List DStmt) (E : Env) (H : CHeap) (hs : List CHeap), Le (evD F l E H hs) (evD G l E H hs)
  | [], _, _, _ => Le.refl _
  | d :: r, E, H, hs => by
    unfold evD
    split
    · exact evD_le h r _ _ _
    · split
      · exact Le.bind (opc_le h _ _ _) fun p => evD_le h r _ _ _
      · refine Le.bind (Le.refl _) fun m => ?_
        split
        · exact evD_le h r _ _ _
        · exact Le.refl _

theorem callN_le_of {p : CProg} {n m : Nat} (h : ∀ c E H, Le (ev p n c E H) (ev p m c E H)) : (callN p n).le (callN p m) := by
  intro f a H
  unfold callN
  refine Le.bind (Le.refl _) fun cf => ?_
  split
  · exact Le.bind (h _ _ _) fun r => Le.refl _
  · exact Le.refl _

/-! Ranges over maps -/

theorem runKeys_le {R S : Env → CHeap → Option (CX × Env × CHeap)} (h : ∀ E H, Le (R E H) (S E H)) (q : RM) (mb : Nat) (es : List CV) (it : Nat) : ∀ (l : List CV) (E : Env) (H : CHeap), Le (runKeys R q mb es it l E H) (runKeys S q mb es it l E H)
  | [], E, H => Le.refl _
  | e :: l, E, H => by
    unfold runKeys
    refine Le.bind (h _ _) fun r => ?_
    split
    · cases r.1 with
      | normal => exact runKeys_le h q mb es it l _ _
      | exit id => exact Le.refl _
      | ret => exact Le.refl _
    · exact Le.refl _

theorem thenRest_le {R S : Env → CHeap → Option (CX × Env × CHeap)} (h : ∀ E H, Le (R E H) (S E H)) (id : Nat) (r : CX × Env × CHeap) : Le (thenRest id R r) (thenRest id S r) := by
  unfold thenRest
  cases r.1.inBlock id with
  | normal => exact h _ _
  | exit i => exact Le.refl _
  | ret => exact Le.refl _

theorem rangeOne_le {Rb Rr Sb Sr : Env → CHeap → Option (CX × Env × CHeap)} (hb : ∀ E H, Le (Rb E H) (Sb E H)) (hr : ∀ E H, Le (Rr E H) (Sr E H)) (q : RM) (mb : Nat) (es : List CV) (E : Env) (H : CHeap) (l : List CV) :
    Le (rangeOne Rb Rr q mb es E H l) (rangeOne Sb Sr q mb es E H l) := by
  unfold rangeOne
  exact Le.map _ (Le.bind (runKeys_le hb _ _ _ _ _ _ _) fun r => thenRest_le hr q.id _)

theorem rangeAll_some {Rb Rr : Env → CHeap → Option (CX × Env × CHeap)} {q : RM} {m : CV} {E : Env} {H : CHeap} {r : CX × Env × CHeap} :
    rangeAll Rb Rr q m E H = some r ↔ ∃ mb es, mapOf H m = some (mb, es) ∧ ∀ l, l.Perm es → rangeOne Rb Rr q mb es E H l = some r := by
  unfold rangeAll
  constructor
  · intro h
    rw [Option.bind_eq_some_iff] at h
    obtain ⟨⟨mb, es⟩, he, h⟩ := h
    split at h
    · rename_i hx
      simp only [Option.some.injEq] at h
      subst h
      exact ⟨mb, es, he, hx.choose_spec⟩
    · cases h
  · rintro ⟨mb, es, he, h⟩
    rw [he, Option.bind_some]
    have hx : ∃ r, ∀ l, l.Perm es → rangeOne Rb Rr q mb es E H l = some r := ⟨r, h⟩
    rw [dif_pos hx]
    have h1 := hx.choose_spec es (List.Perm.refl _)
    rw [h es (List.Perm.refl _)] at h1
    exact h1.symm

theorem rangeAll_le {Rb Rr Sb Sr : Env → CHeap → Option (CX × Env × CHeap)} (hb : ∀ E H, Le (Rb E H) (Sb E H)) (hr : ∀ E H, Le (Rr E H) (Sr E H)) (q : RM) (m : CV) (E : Env) (H : CHeap) :
    Le (rangeAll Rb Rr q m E H) (rangeAll Sb Sr q m E H) := by
  intro r h
  obtain ⟨mb, es, he, h⟩ := rangeAll_some.1 h
  exact rangeAll_some.2 ⟨mb, es, he, fun l hl => rangeOne_le hb hr _ _ _ _ _ _ _ (h l hl)⟩

/-- All ways to lay an element into a list, and all orders of a list. -/
def laid {α : Type} (a : α) : List α → List (List α)
  | [] => [[a]]
  | b :: l => (a :: b :: l) :: (laid a l).map (b :: ·)
def orders {α : Type} : List α → List (List α)
  | [] => [[]]
  | a :: l => (orders l).flatMap (laid a)
theorem mem_laid {α : Type} {a : α} : ∀ (s t : List α), s ++ a :: t ∈ laid a (s ++ t)
  | [], [] => by simp [laid]
  | [], b :: t => by simp [laid]
  | b :: s, t => by
    simp only [List.cons_append, laid, List.mem_cons, List.mem_map]
    exact .inr ⟨_, mem_laid s t, rfl⟩
theorem mem_orders {α : Type} : ∀ (l p : List α), p.Perm l → p ∈ orders l
  | [], p, h => by rw [List.Perm.eq_nil h]; simp [orders]
  | a :: l, p, h => by
    have ha : a ∈ p := h.mem_iff.2 List.mem_cons_self
    obtain ⟨s, t, rfl⟩ := List.append_of_mem ha
    have h1 : (s ++ t).Perm l := (List.perm_middle.symm.trans h).cons_inv
    simp only [orders, List.mem_flatMap]
    exact ⟨s ++ t, mem_orders l _ h1, mem_laid s t⟩
/-- Of finitely many things that each hold from some number on, all hold from some number on. -/
theorem all_from {α : Type} {p : Nat → α → Prop} (hm : ∀ n m a, n ≤ m → p n a → p m a) : ∀ (l : List α), (∀ a ∈ l, ∃ n, p n a) → ∃ n, ∀ a ∈ l, p n a
  | [], _ => ⟨0, by simp⟩
  | a :: l, h => by
    obtain ⟨n, hn⟩ := h a List.mem_cons_self
    obtain ⟨m, hm'⟩ := all_from hm l fun b hb => h b (List.mem_cons_of_mem _ hb)
    refine ⟨max n m, fun b hb => ?_⟩
    rcases List.mem_cons.1 hb with rfl | hb
    · exact hm _ _ _ (Nat.le_max_left _ _) hn
    · exact hm _ _ _ (Nat.le_max_right _ _) (hm' b hb)

theorem ev_succ (p : CProg) (n : Nat) (c : CCode) (E : Env) (H : CHeap) : ev p (n + 1) c E H =
    (match c with
    | .skip => some (.normal, E, H)
    | .region ops => (evOps (callN p n) ops E H).map fun q => (.normal, q.1, q.2)
    | .dregion ops => (evD (callN p n) ops E H []).map fun q => (.normal, q.1, q.2)
    | .seq a b => (ev p n a E H).bind fun r => match r.1 with | .normal => ev p n b r.2.1 r.2.2 | _ => some r
    | .cond c a b => match E.ev c with | .bool t => ev p n (if t then a else b) E H | _ => none
    | .block id c => (ev p n c E H).map fun r => (r.1.inBlock id, r.2)
    | .loop c => (ev p n c E H).bind fun r => match r.1 with | .normal => ev p n (.loop c) r.2.1 r.2.2 | _ => some r
    | .rangeF g ps k z => (rangeIn (callN p n) (E.ev g) ps k z E H).bind (rangeOut E H.length)
    | .rangeM q b r => rangeAll (ev p n b) (ev p n r) q (E.ev q.m) E H
    | .exit id => some (.exit id, E, H)
    | .ret => some (.ret, E, H)) := by
  cases c <;> rfl

theorem ev_le_succ (p : CProg) : ∀ (n : Nat) (c : CCode) (E : Env) (H : CHeap), Le (ev p n c E H) (ev p (n + 1) c E H)
  | 0, _, _, _ => Le.none _
  | n + 1, c, E, H => by
    have ih := ev_le_succ p n
    rw [ev_succ p n, ev_succ p (n + 1)]
    cases c with
    | skip => exact Le.refl _
    | region ops => exact Le.map _ (evOps_le (callN_le_of ih) _ _ _)
    | dregion ops => exact Le.map _ (evD_le (callN_le_of ih) _ _ _ _)
    | seq a b => exact Le.bind (ih _ _ _) fun r => by cases r.1 <;> first | exact ih _ _ _ | exact Le.refl _
    | cond c a b =>
      show Le (match E.ev c with | .bool t => ev p n (if t then a else b) E H | _ => none) (match E.ev c with | .bool t => ev p (n + 1) (if t then a else b) E H | _ => none)
      cases E.ev c <;> first | exact ih _ _ _ | exact Le.refl _
    | block id c => exact Le.map _ (ih _ _ _)
    | loop c => exact Le.bind (ih _ _ _) fun r => by cases r.1 <;> first | exact ih _ _ _ | exact Le.refl _
    | rangeF g ps k z => exact Le.bind (rangeIn_le (callN_le_of ih) _ _ _ _ _ _) fun r => Le.refl _
    | rangeM q b r => exact rangeAll_le (ih b) (ih r) _ _ _ _
    | exit id => exact Le.refl _
    | ret => exact Le.refl _

theorem ev_le (p : CProg) {n m : Nat} (h : n ≤ m) (c : CCode) (E : Env) (H : CHeap) : Le (ev p n c E H) (ev p m c E H) := by
  induction h with
  | refl => exact Le.refl _
  | step _ ih => exact ih.trans (ev_le_succ p _ c E H)

theorem callN_le (p : CProg) {n m : Nat} (h : n ≤ m) : (callN p n).le (callN p m) := callN_le_of (ev_le p h)

/-! ### The limit -/

open Classical in
noncomputable def lim {α : Type} (f : Nat → Option α) : Option α := if h : ∃ r n, f n = some r then some h.choose else none

theorem lim_some {α : Type} {f : Nat → Option α} (hm : ∀ n m, n ≤ m → Le (f n) (f m)) {r : α} : lim f = some r ↔ ∃ n, f n = some r := by
  unfold lim
  constructor
  · intro h
    split at h
    · rename_i hh
      obtain ⟨n, hn⟩ := hh.choose_spec
      simp only [Option.some.injEq] at h
      exact ⟨n, by rw [hn, h]⟩
    · cases h
  · rintro ⟨n, hn⟩
    have hh : ∃ r n, f n = some r := ⟨r, n, hn⟩
    rw [dif_pos hh]
    obtain ⟨m, hm'⟩ := hh.choose_spec
    have e1 := hm n (max n m) (Nat.le_max_left _ _) _ hn
    have e2 := hm m (max n m) (Nat.le_max_right _ _) _ hm'
    rw [e1] at e2
    simpa using e2.symm

noncomputable def den (p : CProg) (c : CCode) (E : Env) (H : CHeap) : Option (CX × Env × CHeap) := lim fun n => ev p n c E H
noncomputable def run (p : CProg) : CallF := fun f a H => lim fun n => callN p n f a H

theorem den_some {p : CProg} {c : CCode} {E : Env} {H : CHeap} {r : CX × Env × CHeap} : den p c E H = some r ↔ ∃ n, ev p n c E H = some r :=
  lim_some fun _ _ h => ev_le p h c E H
theorem run_some {p : CProg} {f : Nat} {a : List CV} {H : CHeap} {r : CV × CHeap} : run p f a H = some r ↔ ∃ n, callN p n f a H = some r :=
  lim_some fun _ _ h => callN_le p h f a H
theorem callN_run (p : CProg) (n : Nat) : (callN p n).le (run p) := fun _ _ _ r h => run_some.2 ⟨n, h⟩

theorem ext_some {α : Type} {x y : Option α} (h : ∀ r, x = some r ↔ y = some r) : x = y := by
  cases hx : x with
  | none =>
    cases hy : y with
    | none => rfl
    | some r => exact absurd ((h r).2 hy) (by rw [hx]; simp)
  | some r => exact ((h r).1 hx).symm

theorem yieldBody_cont {p : CProg} {b z : Nat} {q : CV × CHeap} {r : CV × CHeap} (h : yieldBody (run p) b z q = some r) : ∃ n, yieldBody (callN p n) b z q = some r := by
  unfold yieldBody at *
  split at h
  · rename_i env s ps e0 z h1 h2
    split at h
    · rename_i hc
      rw [Option.bind_eq_some_iff] at h
      obtain ⟨q, hq, h⟩ := h
      obtain ⟨n, hn⟩ := run_some.1 hq
      exact ⟨n, by rw [if_pos hc]; simp only [hn, Option.bind_some]; exact h⟩
    · cases h
  · cases h
theorem yieldOf_cont {p : CProg} {b : Nat} {args : List CV} {H : CHeap} {r : CV × CHeap} (h : yieldOf (run p) b args H = some r) : ∃ n, yieldOf (callN p n) b args H = some r := by
  unfold yieldOf at *
  split at h
  · rename_i s ps env z hb
    split at h
    · rename_i hc
      rw [Option.bind_eq_some_iff] at h
      obtain ⟨q, hq, h⟩ := h
      obtain ⟨n, hn⟩ := run_some.1 hq
      obtain ⟨m, hm⟩ := yieldBody_cont h
      exact ⟨max n m, by
        simp only [hc, and_self, if_true]
        rw [callN_le p (Nat.le_max_left n m) _ _ _ _ hn, Option.bind_some]
        exact yieldBody_le (callN_le p (Nat.le_max_right n m)) _ _ _ _ hm⟩
    · cases h
  · cases h

theorem rangeIn_cont {p : CProg} {g : CV} {ps : List Nat} {k z : Nat} {E : Env} {H : CHeap} {r : CV × CHeap} (h : rangeIn (run p) g ps k z E H = some r) : ∃ n, rangeIn (callN p n) g ps k z E H = some r := by
  unfold rangeIn at *
  split at h
  · split at h
    · rename_i hf; simp only [if_pos hf]; exact run_some.1 h
    · cases h
  · cases h

theorem opc_cont {p : CProg} {op : COp} {E : Env} {H : CHeap} {r : CV × CHeap} (h : opc (run p) op E H = some r) : ∃ n, opc (callN p n) op E H = some r := by
  unfold opc at *
  cases op with
  | call f args => exact run_some.1 h
  | callv g args =>
    dsimp only at h ⊢
    cases hg : E.ev g <;> simp only [hg] at h ⊢ <;> first
      | exact yieldOf_cont h
      | (rename_i f caps
         by_cases hf : f < RB
         · simp only [if_pos hf] at h ⊢; exact run_some.1 h
         · rw [if_neg hf] at h; cases h)
      | cases h
  | callm g args tbl =>
    dsimp only at h ⊢
    split at h
    · split at h
      · rename_i hf; simp only [if_pos hf]; exact run_some.1 h
      · cases h
    · rw [Option.bind_eq_some_iff] at h
      obtain ⟨f, hf, h⟩ := h
      obtain ⟨n, hn⟩ := run_some.1 h
      exact ⟨n, by rw [hf]; exact hn⟩
    · exact yieldOf_cont h
    · cases h
  | invk name x args tbl =>
    dsimp only at h ⊢
    split at h
    · rw [Option.bind_eq_some_iff] at h
      obtain ⟨f, hf, h⟩ := h
      obtain ⟨n, hn⟩ := run_some.1 h
      exact ⟨n, by rw [hf]; exact hn⟩
    · cases h
  | _ => exact ⟨0, h⟩

theorem evStmt_cont {p : CProg} {s : CStmt} {E : Env} {H : CHeap} {r : Env × CHeap} (h : evStmt (run p) s E H = some r) : ∃ n, evStmt (callN p n) s E H = some r := by
  unfold evStmt at *
  cases hw : wanted s.guard E <;> simp only [hw] at h ⊢
  · exact ⟨0, h⟩
  · simp only [if_true, Option.map_eq_some_iff] at h
    obtain ⟨q, hq, rfl⟩ := h
    obtain ⟨n, hn⟩ := opc_cont hq
    exact ⟨n, by simp [hn]⟩

theorem evOps_cont {p : CProg} : ∀ {l : List CStmt} {E : Env} {H : CHeap} {r : Env × CHeap}, evOps (run p) l E H = some r → ∃ n, evOps (callN p n) l E H = some r
  | [], _, _, _, h => ⟨0, h⟩
  | s :: l, E, H, r, h => by
    unfold evOps at h
    rw [Option.bind_eq_some_iff] at h
    obtain ⟨q, hq, hr⟩ := h
    obtain ⟨n, hn⟩ := evStmt_cont hq
    obtain ⟨m, hm⟩ := evOps_cont hr
    refine ⟨max n m, ?_⟩
    unfold evOps
    rw [evStmt_le (callN_le p (Nat.le_max_left n m)) s E H _ hn, Option.bind_some]
    exact evOps_le (callN_le p (Nat.le_max_right n m)) l _ _ _ hm

theorem evD_cont {p : CProg} : ∀ {l : List DStmt} {E : Env} {H : CHeap} {hs : List CHeap} {r : Env × CHeap}, evD (run p) l E H hs = some r → ∃ n, evD (callN p n) l E H hs = some r
  | [], _, _, _, _, h => ⟨0, h⟩
  | d :: l, E, H, hs, r, h => by
    unfold evD at h
    by_cases hw : wanted d.s.guard E = false
    · rw [if_pos hw] at h
      obtain ⟨n, hn⟩ := evD_cont h
      exact ⟨n, by unfold evD; rw [if_pos hw]; exact hn⟩
    · rw [if_neg hw] at h
      by_cases h3 : d.kind = 3
      · rw [if_pos h3, Option.bind_eq_some_iff] at h
        obtain ⟨q, hq, hr⟩ := h
        obtain ⟨n, hn⟩ := opc_cont hq
        obtain ⟨m, hm⟩ := evD_cont hr
        refine ⟨max n m, ?_⟩
        unfold evD
        rw [if_neg hw, if_pos h3, opc_le (callN_le p (Nat.le_max_left n m)) _ _ _ _ hn, Option.bind_some]
        exact evD_le (callN_le p (Nat.le_max_right n m)) _ _ _ _ _ hm
      · rw [if_neg h3, Option.bind_eq_some_iff] at h
        obtain ⟨q, hq, hr⟩ := h
        split at hr
        · rename_i h1
          obtain ⟨m, hm⟩ := evD_cont hr
          exact ⟨m, by unfold evD; rw [if_neg hw, if_neg h3, hq, Option.bind_some, if_pos h1]; exact hm⟩
        · cases hr

theorem runKeys_cont {p : CProg} {b : CCode} {q : RM} {mb : Nat} {es : List CV} {it : Nat} : ∀ {l : List CV} {E : Env} {H : CHeap} {r : CX × Env × CHeap}, runKeys (den p b) q mb es it l E H = some r → ∃ n, runKeys (ev p n b) q mb es it l E H = some r
  | [], E, H, r, h => ⟨0, h⟩
  | e :: l, E, H, r, h => by
    unfold runKeys at h
    rw [Option.bind_eq_some_iff] at h
    obtain ⟨u, hu, h⟩ := h
    obtain ⟨n, hn⟩ := den_some.1 hu
    split at h
    case isFalse => cases h
    rename_i hes
    cases hx : u.1 with
    | normal =>
      simp only [hx] at h
      obtain ⟨k, hk⟩ := runKeys_cont h
      refine ⟨max n k, ?_⟩
      unfold runKeys
      rw [ev_le p (Nat.le_max_left n k) _ _ _ _ hn, Option.bind_some, if_pos hes]
      simp only [hx]
      exact runKeys_le (fun E H => ev_le p (Nat.le_max_right n k) b E H) _ _ _ _ _ _ _ _ hk
    | exit i => exact ⟨n, by unfold runKeys; rw [hn, Option.bind_some, if_pos hes]; simp only [hx] at h ⊢; exact h⟩
    | ret => exact ⟨n, by unfold runKeys; rw [hn, Option.bind_some, if_pos hes]; simp only [hx] at h ⊢; exact h⟩

theorem thenRest_cont {p : CProg} {c : CCode} {id : Nat} {q r : CX × Env × CHeap} (h : thenRest id (den p c) q = some r) : ∃ n, thenRest id (ev p n c) q = some r := by
  unfold thenRest at *
  cases hx : q.1.inBlock id with
  | normal => simp only [hx] at h ⊢; exact den_some.1 h
  | exit i => simp only [hx] at h ⊢; exact ⟨0, h⟩
  | ret => simp only [hx] at h ⊢; exact ⟨0, h⟩

theorem rangeOne_cont {p : CProg} {b c : CCode} {q : RM} {mb : Nat} {es : List CV} {E : Env} {H : CHeap} {l : List CV} {r : CX × Env × CHeap} (h : rangeOne (den p b) (den p c) q mb es E H l = some r) :
    ∃ n, rangeOne (ev p n b) (ev p n c) q mb es E H l = some r := by
  unfold rangeOne at h
  rw [Option.map_eq_some_iff] at h
  obtain ⟨y, hy, rfl⟩ := h
  rw [Option.bind_eq_some_iff] at hy
  obtain ⟨u, hu, hy⟩ := hy
  obtain ⟨n, hn⟩ := runKeys_cont hu
  obtain ⟨k, hk⟩ := thenRest_cont hy
  refine ⟨max n k, ?_⟩
  unfold rangeOne
  rw [runKeys_le (fun E H => ev_le p (Nat.le_max_left n k) b E H) _ _ _ _ _ _ _ _ hn, Option.bind_some, thenRest_le (fun E H => ev_le p (Nat.le_max_right n k) c E H) _ _ _ hk]
  rfl

theorem rangeAll_lim {p : CProg} {b c : CCode} {q : RM} {m : CV} {E : Env} {H : CHeap} {r : CX × Env × CHeap} :
    (∃ n, rangeAll (ev p n b) (ev p n c) q m E H = some r) ↔ rangeAll (den p b) (den p c) q m E H = some r := by
  constructor
  · rintro ⟨n, h⟩
    exact rangeAll_le (fun E H r h => den_some.2 ⟨n, h⟩) (fun E H r h => den_some.2 ⟨n, h⟩) _ _ _ _ _ h
  · intro h
    obtain ⟨mb, es, he, h⟩ := rangeAll_some.1 h
    obtain ⟨n, hn⟩ := all_from (p := fun n l => l.Perm es → rangeOne (ev p n b) (ev p n c) q mb es E H l = some r)
      (fun n k l hnk h hl => rangeOne_le (fun E H => ev_le p hnk b E H) (fun E H => ev_le p hnk c E H) _ _ _ _ _ _ _ (h hl)) (orders es) (fun l _ => by
        by_cases hl : l.Perm es
        · obtain ⟨n, hn⟩ := rangeOne_cont (h l hl)
          exact ⟨n, fun _ => hn⟩
        · exact ⟨0, fun h => absurd h hl⟩)
    exact ⟨n, rangeAll_some.2 ⟨mb, es, he, fun l hl => hn l (mem_orders es l hl) hl⟩⟩

theorem den_eq (p : CProg) (c : CCode) (E : Env) (H : CHeap) : den p c E H =
    (match c with
    | .skip => some (.normal, E, H)
    | .region ops => (evOps (run p) ops E H).map fun q => (.normal, q.1, q.2)
    | .dregion ops => (evD (run p) ops E H []).map fun q => (.normal, q.1, q.2)
    | .seq a b => (den p a E H).bind fun r => match r.1 with | .normal => den p b r.2.1 r.2.2 | _ => some r
    | .cond c a b => match E.ev c with | .bool t => den p (if t then a else b) E H | _ => none
    | .block id c => (den p c E H).map fun r => (r.1.inBlock id, r.2)
    | .loop c => (den p c E H).bind fun r => match r.1 with | .normal => den p (.loop c) r.2.1 r.2.2 | _ => some r
    | .rangeF g ps k z => (rangeIn (run p) (E.ev g) ps k z E H).bind (rangeOut E H.length)
    | .rangeM q b r => rangeAll (den p b) (den p r) q (E.ev q.m) E H
    | .exit id => some (.exit id, E, H)
    | .ret => some (.ret, E, H)) := by
  apply ext_some
  intro r
  rw [den_some]
  have up : (∃ n, ev p n c E H = some r) ↔ ∃ n, ev p (n + 1) c E H = some r :=
    ⟨fun ⟨n, h⟩ => ⟨n, ev_le_succ p n c E H r h⟩, fun ⟨n, h⟩ => ⟨n + 1, h⟩⟩
  rw [up]
  simp only [ev_succ]
  have two : ∀ (a b : CCode) (r : CX × Env × CHeap), (∃ n, ((ev p n a E H).bind fun r => match r.1 with | .normal => ev p n b r.2.1 r.2.2 | _ => some r) = some r) ↔
      ((den p a E H).bind fun r => match r.1 with | .normal => den p b r.2.1 r.2.2 | _ => some r) = some r := by
    intro a b r
    constructor
    · rintro ⟨n, h⟩
      rw [Option.bind_eq_some_iff] at h ⊢
      obtain ⟨q, hq, hr⟩ := h
      refine ⟨q, den_some.2 ⟨n, hq⟩, ?_⟩
      cases hx : q.1 <;> simp only [hx] at hr ⊢ <;> first | exact den_some.2 ⟨n, hr⟩ | exact hr
    · intro h
      rw [Option.bind_eq_some_iff] at h
      obtain ⟨q, hq, hr⟩ := h
      obtain ⟨n, hn⟩ := den_some.1 hq
      cases hx : q.1 <;> simp only [hx] at hr
      · obtain ⟨m, hm⟩ := den_some.1 hr
        refine ⟨max n m, ?_⟩
        rw [ev_le p (Nat.le_max_left n m) _ _ _ _ hn, Option.bind_some]
        simp only [hx]
        exact ev_le p (Nat.le_max_right n m) _ _ _ _ hm
      all_goals exact ⟨n, by rw [hn, Option.bind_some]; simp only [hx]; exact hr⟩
  cases c with
  | skip => simp
  | region ops =>
    simp only [Option.map_eq_some_iff]
    constructor
    · rintro ⟨n, q, hq, rfl⟩; exact ⟨q, evOps_le (callN_run p n) _ _ _ _ hq, rfl⟩
    · rintro ⟨q, hq, rfl⟩; obtain ⟨n, hn⟩ := evOps_cont hq; exact ⟨n, q, hn, rfl⟩
  | dregion ops =>
    simp only [Option.map_eq_some_iff]
    constructor
    · rintro ⟨n, q, hq, rfl⟩; exact ⟨q, evD_le (callN_run p n) _ _ _ _ _ hq, rfl⟩
    · rintro ⟨q, hq, rfl⟩; obtain ⟨n, hn⟩ := evD_cont hq; exact ⟨n, q, hn, rfl⟩
  | seq a b => exact two a b r
  | cond c a b =>
    cases hc : E.ev c <;> simp only [hc] <;> first | exact den_some.symm | simp
  | block id c =>
    simp only [Option.map_eq_some_iff]
    constructor
    · rintro ⟨n, q, hq, rfl⟩; exact ⟨q, den_some.2 ⟨n, hq⟩, rfl⟩
    · rintro ⟨q, hq, rfl⟩; obtain ⟨n, hn⟩ := den_some.1 hq; exact ⟨n, q, hn, rfl⟩
  | loop c => exact two c (.loop c) r
  | rangeF g ps k z =>
    simp only [Option.bind_eq_some_iff]
    constructor
    · rintro ⟨n, q, hq, hr⟩; exact ⟨q, rangeIn_le (callN_run p n) _ _ _ _ _ _ _ hq, hr⟩
    · rintro ⟨q, hq, hr⟩; obtain ⟨n, hn⟩ := rangeIn_cont hq; exact ⟨n, q, hn, hr⟩
  | rangeM q b c => exact rangeAll_lim
  | exit id => simp
  | ret => simp

theorem run_eq {p : CProg} {f : Nat} {cf : CFunc} (hf : p f = some cf) (a : List CV) (ha : a.length ≤ cf.n) (H : CHeap) :
    run p f a H = (den p cf.body (entry a) H).bind (leave cf) := by
  apply ext_some
  intro r
  rw [run_some]
  simp only [callN, hf, Option.bind_some, if_pos ha]
  constructor
  · rintro ⟨n, h⟩
    rw [Option.bind_eq_some_iff] at h ⊢
    obtain ⟨q, hq, hr⟩ := h
    exact ⟨q, den_some.2 ⟨n, hq⟩, hr⟩
  · intro h
    rw [Option.bind_eq_some_iff] at h
    obtain ⟨q, hq, hr⟩ := h
    obtain ⟨n, hn⟩ := den_some.1 hq
    exact ⟨n, by rw [hn]; exact hr⟩

/-! ### The heap never gets shorter -/

def LenF (F : CallF) : Prop := ∀ f a H r, F f a H = some r → H.length ≤ r.2.length

theorem storeN_len {H H' : CHeap} {b o : Nat} {vs : List CV} (h : storeN H b o vs = some H') : H'.length = H.length := by
  unfold storeN at h
  split at h
  · split at h
    · simp only [Option.some.injEq] at h; subst h; simp
    · cases h
  · cases h

theorem made_len (H : CHeap) (m : Option Blk × (Nat → CV)) : H.length ≤ (made H m).2.length := by
  unfold made
  split <;> simp

theorem appendTo_len {H : CHeap} {esz n : Nat} {s : CV} {new : List CV} {r : CV × CHeap} (h : appendTo H esz s n new = some r) : H.length ≤ r.2.length := by
  unfold appendTo at h
  split at h
  · split at h
    · simp only [Option.some.injEq] at h; subst h; exact Nat.le_refl _
    · split at h
      · simp only [Option.some.injEq] at h; subst h; simp
      · cases h
  · split at h
    · simp only [Option.some.injEq] at h; subst h; exact Nat.le_refl _
    · split at h
      · rw [Option.map_eq_some_iff] at h
        obtain ⟨H', hs, rfl⟩ := h
        exact Nat.le_of_eq (storeN_len hs).symm
      · split at h
        · rw [Option.bind_eq_some_iff] at h
          obtain ⟨old, _, h⟩ := h
          split at h
          · split at h
            · split at h
              · simp only [Option.some.injEq] at h; subst h; simp
              · cases h
            · cases h
          · simp only [Option.some.injEq] at h; subst h; simp
        · cases h
  · cases h

theorem setEntries_len {H H' : CHeap} {b : Nat} {es : List CV} (h : setEntries H b es = some H') : H'.length = H.length := by
  unfold setEntries at h
  split at h
  · split at h
    · simp only [Option.some.injEq] at h; subst h; simp
    · cases h
  · cases h
theorem mapSetOf_len {H H' : CHeap} {k : IntKind} {m x v : CV} (h : mapSetOf H k m x v = some H') : H'.length = H.length := by
  unfold mapSetOf at h
  split at h
  · split at h
    · simp only [Option.bind_eq_some_iff] at h
      obtain ⟨es, _, r, _, h⟩ := h
      split at h <;> exact setEntries_len h
    · cases h
  · cases h
theorem mapDelOf_len {H H' : CHeap} {k : IntKind} {m x : CV} (h : mapDelOf H k m x = some H') : H'.length = H.length := by
  unfold mapDelOf at h
  split at h
  · split at h
    · simp only [Option.bind_eq_some_iff] at h
      obtain ⟨es, _, r, _, h⟩ := h
      split at h <;> exact setEntries_len h
    · cases h
  · split at h
    · simp only [Option.some.injEq] at h; subst h; rfl
    · cases h
  · cases h

theorem opv_len {op : COp} {E : Env} {H : CHeap} {r : CV × CHeap} (h : opv op E H = some r) : H.length ≤ r.2.length := by
  have steady : (mkOf op E H).map (made H) = some r → H.length ≤ r.2.length := by
    intro h
    rw [Option.map_eq_some_iff] at h
    obtain ⟨m, _, rfl⟩ := h
    exact made_len H m
  cases op with
  | store n x y =>
    simp only [opv] at h
    split at h
    · split at h
      · rw [Option.map_eq_some_iff] at h
        obtain ⟨H', hs, rfl⟩ := h
        exact Nat.le_of_eq (storeN_len hs).symm
      · cases h
    · cases h
  | append n s x =>
    simp only [opv, Option.bind_eq_some_iff] at h
    obtain ⟨q, _, h⟩ := h
    exact appendTo_len h
  | copy n d s =>
    simp only [opv] at h
    split at h
    · split at h
      · simp only [Option.some.injEq] at h; subst h; exact Nat.le_refl _
      · rw [Option.bind_eq_some_iff] at h
        obtain ⟨cs, _, h⟩ := h
        rw [Option.map_eq_some_iff] at h
        obtain ⟨H', hs, rfl⟩ := h
        exact Nat.le_of_eq (storeN_len hs).symm
    all_goals first | cases h; done | (simp only [Option.some.injEq] at h; subst h; exact Nat.le_refl _)
  | clear z s =>
    simp only [opv] at h
    split at h
    · split at h
      · simp only [Option.some.injEq] at h; subst h; exact Nat.le_refl _
      · rw [Option.map_eq_some_iff] at h
        obtain ⟨H', hs, rfl⟩ := h
        exact Nat.le_of_eq (storeN_len hs).symm
    all_goals first | cases h; done | (simp only [Option.some.injEq] at h; subst h; exact Nat.le_refl _)
  | mapSet k m x v =>
    simp only [opv, Option.map_eq_some_iff] at h
    obtain ⟨H', hs, rfl⟩ := h
    exact Nat.le_of_eq (mapSetOf_len hs).symm
  | mapDel k m x =>
    simp only [opv, Option.map_eq_some_iff] at h
    obtain ⟨H', hs, rfl⟩ := h
    exact Nat.le_of_eq (mapDelOf_len hs).symm
  | mapClear m =>
    simp only [opv] at h
    split at h
    · rw [Option.map_eq_some_iff] at h
      obtain ⟨H', hs, rfl⟩ := h
      exact Nat.le_of_eq (setEntries_len hs).symm
    · simp only [Option.some.injEq] at h; subst h; exact Nat.le_refl _
    · cases h
  | sortI x =>
    simp only [opv] at h
    split at h
    · split at h
      · simp only [Option.some.injEq] at h; subst h; exact Nat.le_refl _
      · split at h
        · simp only [Option.bind_eq_some_iff, Option.map_eq_some_iff] at h
          obtain ⟨cs, _, l, _, H', hs, rfl⟩ := h
          exact Nat.le_of_eq (storeN_len hs).symm
        · cases h
    · simp only [Option.some.injEq] at h; subst h; exact Nat.le_refl _
    · cases h
  | keysSorted g x =>
    simp only [opv] at h
    split at h
    · split at h
      · split at h
        · simp only [Option.bind_eq_some_iff] at h
          obtain ⟨y, _, l, _, h⟩ := h
          split at h
          · simp only [Option.some.injEq] at h; subst h; exact Nat.le_refl _
          · split at h
            · simp only [Option.some.injEq] at h; subst h; simp
            · cases h
        · cases h
      · cases h
    · cases h
  | _ => exact steady h

theorem yieldBody_len {F : CallF} (hF : LenF F) {b z : Nat} {q : CV × CHeap} {r : CV × CHeap} (h : yieldBody F b z q = some r) : q.2.length ≤ r.2.length := by
  unfold yieldBody at h
  split at h
  · split at h
    · rw [Option.bind_eq_some_iff] at h
      obtain ⟨q, hq, h⟩ := h
      have := hF _ _ _ _ hq
      rw [List.length_set] at this
      split at h
      · simp only [Option.some.injEq] at h; subst h; simpa using this
      · cases h
    · cases h
  · cases h
theorem yieldOf_len {F : CallF} (hF : LenF F) {b : Nat} {args : List CV} {H : CHeap} {r : CV × CHeap} (h : yieldOf F b args H = some r) : H.length ≤ r.2.length := by
  unfold yieldOf at h
  split at h
  · split at h
    · rw [Option.bind_eq_some_iff] at h
      obtain ⟨q, hq, h⟩ := h
      exact Nat.le_trans (hF _ _ _ _ hq) (yieldBody_len hF h)
    · cases h
  · cases h
theorem rangeIn_len {F : CallF} (hF : LenF F) {g : CV} {ps : List Nat} {k z : Nat} {E : Env} {H : CHeap} {r : CV × CHeap} (h : rangeIn F g ps k z E H = some r) : H.length + 1 ≤ r.2.length := by
  unfold rangeIn at h
  split at h
  · split at h
    · have := hF _ _ _ _ h; simpa using this
    · cases h
  · cases h
theorem rangeOut_len {E : Env} {b : Nat} {r : CV × CHeap} {q : CX × Env × CHeap} (h : rangeOut E b r = some q) : q.2.2.length = r.2.length ∧ q.2.1 = E := by
  unfold rangeOut at h
  split at h
  · split at h
    · simp only [Option.some.injEq] at h; subst h; simp
    · split at h
      · simp only [Option.some.injEq] at h; subst h; simp
      · split at h
        · simp only [Option.some.injEq] at h; subst h; simp
        · cases h
  · cases h

theorem leave_len {cf : CFunc} {r : CX × Env × CHeap} {q : CV × CHeap} (h : leave cf r = some q) : q.2 = r.2.2 := by
  unfold leave at h
  split at h
  · simp only [Option.some.injEq] at h; subst h; rfl
  split at h
  · split at h
    · simp only [Option.some.injEq] at h; subst h; rfl
    · cases h
  · split at h
    · rw [Option.map_eq_some_iff] at h; obtain ⟨v, _, rfl⟩ := h; rfl
    · rw [Option.map_eq_some_iff] at h; obtain ⟨v, _, rfl⟩ := h; rfl
    · cases h

theorem opc_len {F : CallF} (hF : LenF F) {op : COp} {E : Env} {H : CHeap} {r : CV × CHeap} (h : opc F op E H = some r) : H.length ≤ r.2.length := by
  cases op with
  | call f args => exact hF _ _ _ _ h
  | callv g args =>
    simp only [opc] at h
    split at h
    · split at h
      · exact hF _ _ _ _ h
      · cases h
    · exact yieldOf_len hF h
    · cases h
  | callm g args tbl =>
    simp only [opc] at h
    split at h
    · split at h
      · exact hF _ _ _ _ h
      · cases h
    · rw [Option.bind_eq_some_iff] at h
      obtain ⟨f, _, h⟩ := h
      exact hF _ _ _ _ h
    · exact yieldOf_len hF h
    · cases h
  | invk name x args tbl =>
    simp only [opc] at h
    split at h
    · rw [Option.bind_eq_some_iff] at h
      obtain ⟨f, _, h⟩ := h
      exact hF _ _ _ _ h
    · cases h
  | _ => simp only [opc] at h; exact opv_len h

theorem evOps_len {F : CallF} (hF : LenF F) : ∀ {l : List CStmt} {E : Env} {H : CHeap} {r : Env × CHeap}, evOps F l E H = some r → H.length ≤ r.2.length
  | [], E, H, r, h => by simp only [evOps, Option.some.injEq] at h; subst h; exact Nat.le_refl _
  | s :: l, E, H, r, h => by
    simp only [evOps, Option.bind_eq_some_iff] at h
    obtain ⟨q, hq, hr⟩ := h
    refine Nat.le_trans ?_ (evOps_len hF hr)
    unfold evStmt at hq
    split at hq
    · rw [Option.map_eq_some_iff] at hq
      obtain ⟨p, hp, rfl⟩ := hq
      exact opc_len hF hp
    · simp only [Option.some.injEq] at hq; subst hq; exact Nat.le_refl _

theorem evD_len {F : CallF} (hF : LenF F) : ∀ {l : List DStmt} {E : Env} {H : CHeap} {hs : List CHeap} {r : Env × CHeap}, evD F l E H hs = some r → H.length ≤ r.2.length
  | [], E, H, hs, r, h => by simp only [evD, Option.some.injEq] at h; subst h; exact Nat.le_refl _
  | d :: l, E, H, hs, r, h => by
    unfold evD at h
    split at h
    · exact evD_len hF h
    · split at h
      · rw [Option.bind_eq_some_iff] at h
        obtain ⟨q, hq, hr⟩ := h
        exact Nat.le_trans (opc_len hF hq) (evD_len hF hr)
      · rw [Option.bind_eq_some_iff] at h
        obtain ⟨m, _, hr⟩ := h
        split at hr
        · exact Nat.le_trans (made_len H m) (evD_len hF hr)
        · cases hr

theorem runKeys_len {R : Env → CHeap → Option (CX × Env × CHeap)} (hR : ∀ E H r, R E H = some r → H.length ≤ r.2.2.length) {q : RM} {mb : Nat} {es : List CV} {it : Nat} : ∀ {l : List CV} {E : Env} {H : CHeap} {r : CX × Env × CHeap}, runKeys R q mb es it l E H = some r → H.length ≤ r.2.2.length
  | [], E, H, r, h => by
    simp only [runKeys, Option.some.injEq] at h; subst h; exact Nat.le_refl _
  | e :: l, E, H, r, h => by
    unfold runKeys at h
    rw [Option.bind_eq_some_iff] at h
    obtain ⟨u, hu, h⟩ := h
    have := hR _ _ _ hu
    split at h
    · split at h
      · exact Nat.le_trans this (runKeys_len hR h)
      · simp only [Option.some.injEq] at h; subst h; exact this
    · cases h

theorem killFrom_len {n : Nat} {H : CHeap} (h : n ≤ H.length) : (killFrom n H).length = H.length := by
  simp [killFrom]; omega

theorem thenRest_len {R : Env → CHeap → Option (CX × Env × CHeap)} (hR : ∀ E H r, R E H = some r → H.length ≤ r.2.2.length) {id : Nat} {q r : CX × Env × CHeap} (h : thenRest id R q = some r) : q.2.2.length ≤ r.2.2.length := by
  unfold thenRest at h
  split at h
  · exact hR _ _ _ h
  · simp only [Option.some.injEq] at h; subst h; exact Nat.le_refl _

theorem rangeOne_len {Rb Rr : Env → CHeap → Option (CX × Env × CHeap)} (hb : ∀ E H r, Rb E H = some r → H.length ≤ r.2.2.length) (hr : ∀ E H r, Rr E H = some r → H.length ≤ r.2.2.length) {q : RM} {mb : Nat} {es : List CV} {E : Env} {H : CHeap} {l : List CV} {r : CX × Env × CHeap}
    (h : rangeOne Rb Rr q mb es E H l = some r) : H.length ≤ r.2.2.length := by
  unfold rangeOne at h
  rw [Option.map_eq_some_iff] at h
  obtain ⟨y, hy, rfl⟩ := h
  rw [Option.bind_eq_some_iff] at hy
  obtain ⟨u, hu, hy⟩ := hy
  have h1 := runKeys_len hb hu
  have h2 := thenRest_len hr hy
  simp only [List.length_append, List.length_cons, List.length_nil, List.length_set] at h1 h2
  dsimp only
  rw [killFrom_len (by omega)]
  omega

theorem ev_len (p : CProg) : ∀ (n : Nat) {c : CCode} {E : Env} {H : CHeap} {r : CX × Env × CHeap}, ev p n c E H = some r → H.length ≤ r.2.2.length
  | 0, _, _, _, _, h => by cases h
  | n + 1, c, E, H, r, h => by
    have hF : LenF (callN p n) := by
      intro f a H r h
      unfold callN at h
      rw [Option.bind_eq_some_iff] at h
      obtain ⟨cf, _, h⟩ := h
      split at h
      · rw [Option.bind_eq_some_iff] at h
        obtain ⟨q, hq, hl⟩ := h
        rw [leave_len hl]
        exact ev_len p n hq
      · cases h
    rw [ev_succ] at h
    cases c with
    | skip => simp only [Option.some.injEq] at h; subst h; exact Nat.le_refl _
    | region ops => rw [Option.map_eq_some_iff] at h; obtain ⟨q, hq, rfl⟩ := h; exact evOps_len hF hq
    | dregion ops => rw [Option.map_eq_some_iff] at h; obtain ⟨q, hq, rfl⟩ := h; exact evD_len hF hq
    | seq a b =>
      rw [Option.bind_eq_some_iff] at h
      obtain ⟨q, hq, h⟩ := h
      have h1 := ev_len p n hq
      split at h
      · exact Nat.le_trans h1 (ev_len p n h)
      · simp only [Option.some.injEq] at h; subst h; exact h1
    | cond c a b =>
      dsimp only at h
      split at h
      · exact ev_len p n h
      · cases h
    | block id c =>
      rw [Option.map_eq_some_iff] at h
      obtain ⟨q, hq, rfl⟩ := h
      have := ev_len p n hq
      exact this
    | loop c =>
      rw [Option.bind_eq_some_iff] at h
      obtain ⟨q, hq, h⟩ := h
      have h1 := ev_len p n hq
      split at h
      · exact Nat.le_trans h1 (ev_len p n h)
      · simp only [Option.some.injEq] at h; subst h; exact h1
    | rangeF g ps k z =>
      rw [Option.bind_eq_some_iff] at h
      obtain ⟨q, hq, h⟩ := h
      have h1 := rangeIn_len hF hq
      have h2 := (rangeOut_len h).1
      omega
    | rangeM q b c =>
      obtain ⟨mb, es, _, h⟩ := rangeAll_some.1 h
      exact rangeOne_len (fun E H r h => ev_len p n h) (fun E H r h => ev_len p n h) (h es (List.Perm.refl _))
    | exit id => simp only [Option.some.injEq] at h; subst h; exact Nat.le_refl _
    | ret => simp only [Option.some.injEq] at h; subst h; exact Nat.le_refl _

theorem callN_len (p : CProg) (n : Nat) : LenF (callN p n) := by
  intro f a H r h
  unfold callN at h
  rw [Option.bind_eq_some_iff] at h
  obtain ⟨cf, _, h⟩ := h
  split at h
  · rw [Option.bind_eq_some_iff] at h
    obtain ⟨q, hq, hl⟩ := h
    rw [leave_len hl]
    exact ev_len p n hq
  · cases h

end Go.Cs
