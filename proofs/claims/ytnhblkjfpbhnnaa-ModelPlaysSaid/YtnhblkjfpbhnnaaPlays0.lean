/- A part of the proof: ModelPlays returns true for every input: whatever is called, a model returns what the chapter says, and is in the state that it says. (Functions; at most 120 calls) Conditions: none. -/
import Derived.Calls
import Derived.Orders
import Derived.Below
import Derived.Laws.AppendOwn
import Derived.Laws.StructEq
import Derived.Laws.Cover3
import Derived.Laws.Pointers
import Derived.Laws.MakeOwn
set_option linter.unusedVariables false
set_option linter.unusedSimpArgs false
set_option linter.defProp false
/- The clean machine: a deterministic machine over compiled operations (sizes and offsets resolved), without tape, draws or spare capacity. Definitions, and the fuel-free denotation with its equations. -/
namespace Go.Cs
open Go

inductive CV where
  | int (k : IntKind) (n : Int)
  | bool (b : Bool)
  | ptr (b o : Nat)
  | nilPtr
  | slice (b o len cap esz : Nat) (tail : Bool)
  | nilSlice
  | func (f : Nat) (caps : List CV)
  | nilFunc
  | agg (cs : List CV)
  | tup (vs : List CV)
  deriving Inhabited

abbrev CV.undef : CV := .tup []
abbrev CV.i (n : Int) : CV := .int .i64 n

inductive Mode where
  | rw | ro | dead
  deriving DecidableEq, Inhabited

structure Blk where
  cells : List CV
  mode : Mode
  esz : Nat
  deriving Inhabited

abbrev CHeap := List Blk

/-- What a value is as cells. -/
def cellsOf : CV → List CV
  | .agg cs => cs
  | v => [v]

def leaf : CV → Bool
  | .agg _ | .tup _ => false
  | _ => true

def splice (l : List CV) (o : Nat) (vs : List CV) : List CV := l.take o ++ vs ++ l.drop (o + vs.length)

def load1 (H : CHeap) (b o : Nat) : Option CV :=
  match H[b]? with
  | some blk => if blk.mode = .dead then none else blk.cells[o]?
  | none => none

def loadN (H : CHeap) (b o n : Nat) : Option (List CV) :=
  match H[b]? with
  | some blk => if blk.mode = .dead then none else if o + n ≤ blk.cells.length then some ((blk.cells.drop o).take n) else none
  | none => none

def storeN (H : CHeap) (b o : Nat) (vs : List CV) : Option CHeap :=
  match H[b]? with
  | some blk => if blk.mode = .rw ∧ o + vs.length ≤ blk.cells.length ∧ vs.all leaf = true then some (H.set b { blk with cells := splice blk.cells o vs }) else none
  | none => none

inductive Opd where
  | tmp (t : Nat)
  | const (v : CV)
  deriving Inhabited

abbrev Env := Nat → CV

def Env.ev (E : Env) : Opd → CV
  | .tmp t => E t
  | .const v => v

def Env.upd (E : Env) (d : Nat) (v : CV) : Env := fun t => if t = d then v else E t

def Env.put (E : Env) (d : Option Nat) (v : CV) : Env :=
  match d with
  | some d => E.upd d v
  | none => E

inductive COp where
  | mov (x : Opd)
  | pick (c a b : Opd)
  | new (cells : List CV)
  | box (x : Opd)
  | build (zero : List CV) (parts : List (Nat × Nat × Opd))
  | buildSlice (esz : Nat) (cells : List CV) (len : Nat) (parts : List (Nat × Nat × Opd))
  | load (agg : Bool) (n : Nat) (a : Opd)
  | store (n : Nat) (a v : Opd)
  | nilCheck (x : Opd)
  | bin (op : BinOp) (x y : Opd)
  | eqv (neg : Bool) (ty : Nat) (x y : Opd)
  | eqs (neg : Bool) (n : Nat) (x y : Opd)
  | not (x : Opd)
  | mkfunc (f : Nat) (caps : List Opd)
  | makeSlice (esz : Nat) (zero : List CV) (l c : Opd)
  | slice (esz : Nat) (x : Opd) (lo hi mx : Option Opd)
  | field (off : Nat) (x : Opd)
  | index (esz : Nat) (x i : Opd)
  | extract (x : Opd) (i : Nat)
  | len (x : Opd)
  | append (esz : Nat) (s x : Opd)
  | copy (esz : Nat) (d s : Opd)
  | clear (zero : List CV) (s : Opd)
  | call (f : Nat) (args : List Opd)
  | callv (g : Opd) (args : List Opd)
  deriving Inhabited

def intOp (op : BinOp) (k : IntKind) (a b : Int) : Option CV :=
  match op with
  | .add => some (.int k (k.wrap (a + b)))
  | .sub => some (.int k (k.wrap (a - b)))
  | .mul => some (.int k (k.wrap (a * b)))
  | .quo => if b = 0 then none else some (.int k (k.wrap (a.tdiv b)))
  | .rem => if b = 0 then none else some (.int k (a.tmod b))
  | .eql => some (.bool (a == b))
  | .neq => some (.bool (a != b))
  | .lss => some (.bool (decide (a < b)))
  | .leq => some (.bool (decide (a ≤ b)))
  | .gtr => some (.bool (decide (a > b)))
  | .geq => some (.bool (decide (a ≥ b)))
  | _ => none

/-- Equality of cells that are integers, of one kind each. -/
def eqCells : List CV → List CV → Option Bool
  | [], [] => some true
  | .int k a :: r, .int k' b :: r' => if k = k' then (eqCells r r').map fun t => (a == b) && t else none
  | _, _ => none

/-- Equality of bools (0), of pointers of which one is nil (1), of slices of which one is nil (2). -/
def eqVal : Nat → CV → CV → Option Bool
  | 0, .bool a, .bool b => some (a == b)
  | 1, .nilPtr, .nilPtr => some true
  | 1, .nilPtr, .ptr _ _ => some false
  | 1, .ptr _ _, .nilPtr => some false
  | 2, .nilSlice, .nilSlice => some true
  | 2, .nilSlice, .slice .. => some false
  | 2, .slice .., .nilSlice => some false
  | _, _, _ => none

def fill (cells : List CV) : List (Nat × Nat × CV) → Option (List CV)
  | [] => some cells
  | (off, size, v) :: rest => if (cellsOf v).length = size ∧ off + size ≤ cells.length then fill (splice cells off (cellsOf v)) rest else none

def evParts (E : Env) (ps : List (Nat × Nat × Opd)) : List (Nat × Nat × CV) := ps.map fun p => (p.1, p.2.1, E.ev p.2.2)

/-- The most elements that a slice of the clean machine may get. -/
abbrev maxEls : Nat := 16777216

/-- The cells of a slice's elements. -/
def elems (H : CHeap) (esz : Nat) : CV → Option (Nat × List CV)
  | .nilSlice => some (0, [])
  | .slice b o len _ _ _ => if len = 0 then some (0, []) else (loadN H b o (len * esz)).map fun cs => (len, cs)
  | _ => none

/-- Appending where nothing that exists is changed: what is made, and the value by the new block's number. -/
def appendMk (H : CHeap) (esz : Nat) (s : CV) (n : Nat) (new : List CV) : Option (Option Blk × (Nat → CV)) :=
  match s with
  | .nilSlice => if n = 0 then some (none, fun _ => s) else if n ≤ maxEls then some (some ⟨new, .rw, esz⟩, fun k => .slice k 0 n n esz true) else none
  | .slice b o len cap e tail =>
    if n = 0 then some (none, fun _ => s)
    else if tail = false ∧ cap < len + n ∧ len + n ≤ maxEls then
      (if len = 0 then some [] else loadN H b o (len * esz)).map fun old => (some ⟨old ++ new, .rw, esz⟩, fun k => .slice k 0 (len + n) (len + n) esz true)
    else none
  | _ => none

/-- Appending, whatever it changes. -/
def appendTo (H : CHeap) (esz : Nat) (s : CV) (n : Nat) (new : List CV) : Option (CV × CHeap) :=
  match s with
  | .nilSlice => if n = 0 then some (s, H) else if n ≤ maxEls then some (.slice H.length 0 n n esz true, H ++ [⟨new, .rw, esz⟩]) else none
  | .slice b o len cap e tail =>
    if n = 0 then some (s, H)
    else if len + n ≤ cap then (storeN H b (o + len * esz) new).map fun H' => (.slice b o (len + n) cap e tail, H')
    else if len + n ≤ maxEls then
      (if len = 0 then some [] else loadN H b o (len * esz)).bind fun old =>
        if tail then
          match H[b]? with
          | some blk => if blk.mode = .rw ∧ e = esz ∧ o + cap * esz = blk.cells.length ∧ new.all leaf = true then
              some (.slice H.length 0 (len + n) (len + n) esz true, H.set b { blk with mode := .dead } ++ [⟨old ++ new, .rw, esz⟩]) else none
          | none => none
        else some (.slice H.length 0 (len + n) (len + n) esz true, H ++ [⟨old ++ new, .rw, esz⟩])
    else none
  | _ => none

def bound (E : Env) (x : Opd) (m : Nat) : Option Nat :=
  match E.ev x with
  | .int _ i => if 0 ≤ i ∧ i ≤ (m : Int) then some i.toNat else none
  | _ => none

def boundO (E : Env) (x : Option Opd) (m d : Nat) : Option Nat :=
  match x with
  | some v => bound E v m
  | none => some d

/-- The three bounds of a slice expression: low, high, max. -/
def sliceBnds (E : Env) (len cap : Nat) (lo hi mx : Option Opd) : Option (Nat × Nat × Nat) :=
  if mx.isSome = true ∧ hi.isNone = true then none else
  (boundO E mx cap cap).bind fun m => (boundO E hi m len).bind fun h => (boundO E lo h 0).bind fun l => some (l, h, m)

def sliceTo (E : Env) (esz : Nat) (x : CV) (lo hi mx : Option Opd) : Option CV :=
  match x with
  | .nilSlice => (sliceBnds E 0 0 lo hi mx).map fun _ => .nilSlice
  | .slice b o len cap e tail => if e = esz ∧ len ≤ cap then (sliceBnds E len cap lo hi mx).map fun r => .slice b (o + r.1 * esz) (r.2.1 - r.1) (r.2.2 - r.1) e (tail && mx.isNone) else none
  | _ => none

/-- An operation that changes nothing that exists: the block that it makes, if any, and its value by that block's number. -/
def mkOf (op : COp) (E : Env) (H : CHeap) : Option (Option Blk × (Nat → CV)) :=
  match op with
  | .mov x => some (none, fun _ => E.ev x)
  | .pick c a b => match E.ev c with | .bool t => some (none, fun _ => if t then E.ev a else E.ev b) | _ => none
  | .new cells => some (some ⟨cells, .rw, 0⟩, fun k => .ptr k 0)
  | .box x => some (some ⟨cellsOf (E.ev x), .rw, 0⟩, fun k => .ptr k 0)
  | .build zero parts => (fill zero (evParts E parts)).map fun cs => (none, fun _ => .agg cs)
  | .buildSlice esz cells len parts => (fill cells (evParts E parts)).map fun cs => (some ⟨cs, .rw, esz⟩, fun k => .slice k 0 len len esz false)
  | .load agg n a => match E.ev a with
    | .ptr b o => if agg then (loadN H b o n).map fun cs => (none, fun _ => .agg cs) else (load1 H b o).map fun v => (none, fun _ => v)
    | _ => none
  | .nilCheck x => match E.ev x with
    | .ptr b o => some (none, fun _ => .ptr b o)
    | _ => none
  | .bin op x y => match E.ev x, E.ev y with
    | .int k a, .int k' b => if k = k' then (intOp op k a b).map fun v => (none, fun _ => v) else none
    | _, _ => none
  | .eqv neg ty x y => (eqVal ty (E.ev x) (E.ev y)).map fun t => (none, fun _ => .bool (if neg then !t else t))
  | .eqs neg n x y => match E.ev x, E.ev y with
    | .agg xs, .agg ys => if xs.length = n then (eqCells xs ys).map fun t => (none, fun _ => .bool (if neg then !t else t)) else none
    | _, _ => none
  | .not x => match E.ev x with | .bool t => some (none, fun _ => .bool !t) | _ => none
  | .mkfunc f caps => some (none, fun _ => .func f (caps.map E.ev))
  | .makeSlice esz zero l c => match E.ev l, E.ev c with
    | .int .i64 l, .int .i64 c => if 0 ≤ l ∧ l ≤ c ∧ c ≤ (maxEls : Int) then
        some (some ⟨(List.replicate c.toNat zero).flatten, .rw, esz⟩, fun k => .slice k 0 l.toNat c.toNat esz false) else none
    | _, _ => none
  | .slice esz x lo hi mx => (sliceTo E esz (E.ev x) lo hi mx).map fun v => (none, fun _ => v)
  | .field off x => match E.ev x with | .ptr b o => some (none, fun _ => .ptr b (o + off)) | _ => none
  | .index esz x i => match E.ev x, E.ev i with
    | .slice b o len _ _ _, .int _ i => if 0 ≤ i ∧ i < (len : Int) then some (none, fun _ => .ptr b (o + i.toNat * esz)) else none
    | _, _ => none
  | .extract x i => match E.ev x with | .tup vs => vs[i]?.map fun v => (none, fun _ => v) | _ => none
  | .len x => match E.ev x with
    | .slice _ _ len _ _ _ => some (none, fun _ => .i len)
    | .nilSlice => some (none, fun _ => .i 0)
    | _ => none
  | .append esz s x => (elems H esz (E.ev x)).bind fun p => appendMk H esz (E.ev s) p.1 p.2
  | .store .. | .copy .. | .clear .. | .call .. | .callv .. => none

/-- What a steady operation comes to. -/
def made (H : CHeap) (m : Option Blk × (Nat → CV)) : CV × CHeap :=
  match m.1 with
  | none => (m.2 H.length, H)
  | some b => (m.2 H.length, H ++ [b])

/-- An operation that calls nothing: its value and the heap behind it. -/
def opv (op : COp) (E : Env) (H : CHeap) : Option (CV × CHeap) :=
  match op with
  | .store n a v => match E.ev a with
    | .ptr b o => if (cellsOf (E.ev v)).length = n then (storeN H b o (cellsOf (E.ev v))).map fun H' => (.undef, H') else none
    | _ => none
  | .append esz s x => (elems H esz (E.ev x)).bind fun p => appendTo H esz (E.ev s) p.1 p.2
  | .copy esz d s => match E.ev d, E.ev s with
    | .slice b o len _ _ _, .slice b' o' len' _ _ _ =>
      if min len' len = 0 then some (.i 0, H) else
      (loadN H b' o' (min len' len * esz)).bind fun cs => (storeN H b o cs).map fun H' => (.i (min len' len : Nat), H')
    | .nilSlice, .slice .. => some (.i 0, H)
    | .slice .., .nilSlice => some (.i 0, H)
    | .nilSlice, .nilSlice => some (.i 0, H)
    | _, _ => none
  | .clear zero s => match E.ev s with
    | .slice b o len _ _ _ => if len = 0 then some (.tup [], H) else (storeN H b o (List.replicate len zero).flatten).map fun H' => (.tup [], H')
    | .nilSlice => some (.tup [], H)
    | _ => none
  | op => (mkOf op E H).map (made H)

structure CStmt where
  dst : Option Nat
  guard : Option (Nat × Bool)
  op : COp
  deriving Inhabited

/-- An operation of a region that draws its order. The list stands in an order in which each one comes as late as it can. 'no': its number in the text; 'kind': 0: it looks at its operands alone; 1: it reads memory; 3: it may change memory; 'low': behind how many of the changing ones it surely comes. -/
structure DStmt where
  s : CStmt
  no : Nat
  kind : Nat
  low : Nat
  deriving Inhabited

inductive CCode where
  | skip
  | region (ops : List CStmt)
  | dregion (ops : List DStmt)
  | seq (a b : CCode)
  | cond (c : Opd) (a b : CCode)
  | block (id : Nat) (c : CCode)
  | loop (c : CCode)
  | exit (id : Nat)
  | ret
  deriving Inhabited

inductive CRes where
  | tmp (t : Nat)
  | cell (t : Nat) (agg : Bool) (n : Nat)
  deriving Inhabited

structure CFunc where
  body : CCode
  res : List CRes
  deriving Inhabited

abbrev CProg := Nat → Option CFunc

inductive CX where
  | normal
  | exit (id : Nat)
  | ret
  deriving DecidableEq, Inhabited

def wanted (g : Option (Nat × Bool)) (E : Env) : Bool :=
  match g with
  | none => true
  | some (t, want) => match E t with
    | .bool b => b == want
    | _ => false

abbrev CallF := Nat → List CV → CHeap → Option (CV × CHeap)

/-- Any operation. -/
def opc (F : CallF) (op : COp) (E : Env) (H : CHeap) : Option (CV × CHeap) :=
  match op with
  | .call f args => F f (args.map E.ev) H
  | .callv g args => match E.ev g with
    | .func f caps => F f (args.map E.ev ++ caps) H
    | _ => none
  | op => opv op E H

def evStmt (F : CallF) (s : CStmt) (E : Env) (H : CHeap) : Option (Env × CHeap) :=
  if wanted s.guard E then (opc F s.op E H).map fun p => (E.put s.dst p.1, p.2) else some (E.put s.dst .undef, H)

def evOps (F : CallF) : List CStmt → Env → CHeap → Option (Env × CHeap)
  | [], E, H => some (E, H)
  | s :: r, E, H => (evStmt F s E H).bind fun p => evOps F r p.1 p.2

open Classical in
/-- A region that draws its order: what reads memory reads the same in each state in which it may come up. 'hs': the heaps ahead of the changing operations so far, the last one first. -/
noncomputable def evD (F : CallF) : List DStmt → Env → CHeap → List CHeap → Option (Env × CHeap)
  | [], E, H, _ => some (E, H)
  | d :: r, E, H, hs =>
    if wanted d.s.guard E = false then evD F r (E.put d.s.dst .undef) H (if d.kind = 3 then H :: hs else hs)
    else if d.kind = 3 then (opc F d.s.op E H).bind fun p => evD F r (E.put d.s.dst p.1) p.2 (H :: hs)
    else (mkOf d.s.op E H).bind fun m =>
      if d.kind = 1 → ∀ H' ∈ hs.take (hs.length - d.low), mkOf d.s.op E H' = some m then
        evD F r (E.put d.s.dst (made H m).1) (made H m).2 hs else none

def entry (args : List CV) : Env := fun t => args.getD t .undef

def resOf (E : Env) (H : CHeap) : CRes → Option CV
  | .tmp t => some (E t)
  | .cell t agg n => match E t with
    | .ptr b o => if agg then (loadN H b o n).map .agg else load1 H b o
    | _ => none

def resAll (E : Env) (H : CHeap) : List CRes → Option (List CV)
  | [] => some []
  | r :: rs => (resOf E H r).bind fun v => (resAll E H rs).map (v :: ·)

def results (cf : CFunc) (E : Env) (H : CHeap) : Option CV :=
  (resAll E H cf.res).map fun | [v] => v | vs => .tup vs

/-- The end of a body. -/
def leave (cf : CFunc) (r : CX × Env × CHeap) : Option (CV × CHeap) :=
  match r.1 with
  | .normal | .ret => (results cf r.2.1 r.2.2).map fun v => (v, r.2.2)
  | .exit _ => none

def CX.inBlock (id : Nat) : CX → CX
  | .exit id' => if id' = id then .normal else .exit id'
  | x => x

noncomputable def ev (p : CProg) : Nat → CCode → Env → CHeap → Option (CX × Env × CHeap)
  | 0, _, _, _ => none
  | n + 1, c, E, H =>
    let F : CallF := fun f args H => (p f).bind fun cf => (ev p n cf.body (entry args) H).bind (leave cf)
    match c with
    | .skip => some (.normal, E, H)
    | .region ops => (evOps F ops E H).map fun q => (.normal, q.1, q.2)
    | .dregion ops => (evD F ops E H []).map fun q => (.normal, q.1, q.2)
    | .seq a b => (ev p n a E H).bind fun r => match r.1 with | .normal => ev p n b r.2.1 r.2.2 | _ => some r
    | .cond c a b => match E.ev c with | .bool t => ev p n (if t then a else b) E H | _ => none
    | .block id c => (ev p n c E H).map fun r => (r.1.inBlock id, r.2)
    | .loop c => (ev p n c E H).bind fun r => match r.1 with | .normal => ev p n (.loop c) r.2.1 r.2.2 | _ => some r
    | .exit id => some (.exit id, E, H)
    | .ret => some (.ret, E, H)

noncomputable def callN (p : CProg) (n : Nat) : CallF := fun f args H => (p f).bind fun cf => (ev p n cf.body (entry args) H).bind (leave cf)

end Go.Cs

/- From the model's code to the clean machine's. -/
namespace Go.Cs
open Go

def cvLeaf : Value → Option CV
  | .bool b => some (.bool b)
  | .int k n => some (.int k n)
  | .pointer none => some .nilPtr
  | .slice none 0 0 => some .nilSlice
  | .nilFunc => some .nilFunc
  | _ => none

def allSome {α : Type} : List (Option α) → Option (List α)
  | [] => some []
  | none :: _ => none
  | some a :: r => (allSome r).map (a :: ·)

def opd : Operand → Option Opd
  | .tmp t => some (.tmp t)
  | .const v => (cvLeaf v).map .const
  | .func f => some (.const (.func f []))
  | .global _ => none

def opds (l : Array Operand) : Option (List Opd) := allSome (l.toList.map opd)

def opdO : Option Operand → Option (Option Opd)
  | none => some none
  | some x => (opd x).map some

def zeroOf (P : Program) (t : TypeId) : Option (List CV) :=
  (P.info? t).bind fun i => i.zero.bind fun v => allSome (v.cells.toList.map cvLeaf)

def isAggT (P : Program) (t : TypeId) : Option Bool :=
  (P.underlying t).map fun d => match d with | .struct _ | .array _ _ => true | _ => false

def sliceElem (P : Program) (t : TypeId) : Option TypeId :=
  match P.underlying t with
  | some (.slice e) => some e
  | _ => none

/-- A struct all of whose fields are integers. -/
def flatStruct (P : Program) (t : TypeId) : Bool :=
  match P.underlying t with
  | some (.struct fs) => !P.stoodInHeld t && !P.eqGuardType P.depth t &&
      fs.toList.zipIdx.all fun (f, i) => f.name != "_" && f.offset == i && (match P.underlying f.type with | some (.int _) => true | _ => false)
  | _ => false

def sizeT (P : Program) (t : TypeId) : Option Nat := (P.info? t).map (·.size)
def bytesT (P : Program) (t : TypeId) : Option Nat := (P.info? t).map (·.bytes)

def compParts (P : Program) (place : Nat → Option (Nat × Nat)) (parts : Array (Nat × Operand)) : Option (List (Nat × Nat × Opd)) :=
  allSome (parts.toList.map fun (i, x) => (place i).bind fun q => (opd x).map fun y => (q.1, q.2, y))

def guardB {α : Type} (b : Bool) (x : Option α) : Option α := if b then x else none

def compCall (P : Program) (c : Call) : Option COp :=
  match c.callee with
  | .value (.func f) => (opds c.args).map fun l => .call f l
  | .value (.tmp t) => (opds c.args).map fun l => .callv (.tmp t) l
  | .builtin .len => match c.args.toList, c.argTypes[0]? with
    | [x], some t => (sliceElem P t).bind fun _ => (opd x).map .len
    | _, _ => none
  | .builtin .append => match c.args.toList, c.argTypes.toList with
    | [s, x], [t, u] => (sliceElem P t).bind fun e => (sliceElem P u).bind fun _ => (sizeT P e).bind fun n => (bytesT P e).bind fun b => (zeroOf P e).bind fun z =>
        (opd s).bind fun s => (opd x).bind fun x => guardB (decide (0 < n) && decide (0 < b) && decide (b ≤ 4096) && decide (z.length = n)) (some (.append n s x))
    | _, _ => none
  | .builtin .copy => match c.args.toList, c.argTypes.toList with
    | [d, s], [t, u] => (sliceElem P t).bind fun e => (sliceElem P u).bind fun _ => (sizeT P e).bind fun n => (opd d).bind fun d => (opd s).map fun s => .copy n d s
    | _, _ => none
  | .builtin .clear => match c.args.toList, c.argTypes[0]? with
    | [s], some t => (sliceElem P t).bind fun e => (zeroOf P e).bind fun z => (opd s).map fun s => .clear z s
    | _, _ => none
  | _ => none

def compOp (P : Program) (op : Op) : Option COp :=
  match op with
  | .move x | .assign x => (opd x).map .mov
  | .pick c a b => (opd c).bind fun c => (opd a).bind fun a => (opd b).map fun b => .pick c a b
  | .alloc t => (zeroOf P t).map .new
  | .box _ x => (opd x).map .box
  | .build t parts => match P.underlying t with
    | some (.struct fs) => (zeroOf P t).bind fun z => (allSome (fs.toList.map fun f => (sizeT P f.type).map fun n => (f.offset, n))).bind fun pl =>
        (compParts P (pl[·]?) parts).map fun ps => .build z ps
    | _ => none
  | .buildSlice t len parts => (sliceElem P t).bind fun e => (sizeT P e).bind fun n => (zeroOf P e).bind fun z =>
      (compParts P (fun i => some (i * n, n)) parts).bind fun ps =>
        guardB (decide (0 < n) && decide (z.length = n) && decide (len * n ≤ 65536)) (some (.buildSlice n (List.replicate len z).flatten len ps))
  | .load t a => (isAggT P t).bind fun g => (sizeT P t).bind fun n => (opd a).map fun a => .load g n a
  | .store t a v => (sizeT P t).bind fun n => (opd a).bind fun a => (opd v).map fun v => .store n a v
  | .nilCheck x => (opd x).map .nilCheck
  | .binOp op t x y _ => (opd x).bind fun x => (opd y).bind fun y =>
      match P.underlying t with
      | some (.int _) => (match op with | .shl | .shr | .and | .or | .xor | .andNot => none | _ => some (.bin op x y))
      | some .bool => (match op with | .eql => some (.eqv false 0 x y) | .neq => some (.eqv true 0 x y) | _ => none)
      | some (.pointer _) => (match op with | .eql => some (.eqv false 1 x y) | .neq => some (.eqv true 1 x y) | _ => none)
      | some (.slice _) => (match op with | .eql => some (.eqv false 2 x y) | .neq => some (.eqv true 2 x y) | _ => none)
      | some (.struct fs) => guardB (flatStruct P t) (match op with | .eql => some (.eqs false fs.size x y) | .neq => some (.eqs true fs.size x y) | _ => none)
      | _ => none
  | .unOp .not _ x => (opd x).map .not
  | .makeFunc (.func f) first caps => if first.isEmpty then (opds caps).map (.mkfunc f) else none
  | .makeSlice t l c => (sliceElem P t).bind fun e => (sizeT P e).bind fun n => (bytesT P e).bind fun b => (zeroOf P e).bind fun z => (opd l).bind fun l => (opd c).bind fun c =>
      guardB (decide (0 < n) && decide (z.length = n) && decide (b ≤ 4096)) (some (.makeSlice n z l c))
  | .slice t x lo hi mx => (sliceElem P t).bind fun e => (sizeT P e).bind fun n => (opd x).bind fun x => (opdO lo).bind fun lo => (opdO hi).bind fun hi => (opdO mx).map fun mx => .slice n x lo hi mx
  | .fieldAddr s x f => match P.underlying s with
    | some (.struct fs) => (fs[f]?).bind fun fd => (sizeT P fd.type).bind fun n => (opd x).bind fun x => guardB (decide (n ≠ 0)) (some (.field fd.offset x))
    | _ => none
  | .indexAddr t x i => (sliceElem P t).bind fun e => (sizeT P e).bind fun n => (opd x).bind fun x => (opd i).map fun i => .index n x i
  | .extract x i => (opd x).map fun x => .extract x i
  | .call c => compCall P c
  | _ => none

/-- The slot that a guard looks at. -/
def compGuard (ops : Array Oper) (g : Option (Nat × Bool)) : Option (Option (Nat × Bool)) :=
  match g with
  | none => some none
  | some (j, b) => ((ops[j]?).bind (·.dst)).map fun t => some (t, b)

def compStmt (P : Program) (n : Nat) (ops : Array Oper) (o : Oper) : Option CStmt :=
  (compGuard ops o.guard).bind fun g => (compOp P o.op).bind fun op =>
    guardB (match o.dst with | some d => decide (d < n) | none => true) (some ⟨o.dst, g, op⟩)

/-- 0: it looks at its operands alone; 1: it reads memory; 2: an append; 3: it may change memory. -/
def kindOf : COp → Nat
  | .load .. => 1
  | .append .. => 2
  | .store .. | .copy .. | .clear .. | .call .. | .callv .. => 3
  | _ => 0

def edgesOf (o : Oper) : List Nat := (o.after.toList.filter (Region.binds .any)).map (·.on)

/-- Of each operation: those that surely come ahead of it. -/
def ancs (ops : List Oper) : List (List Nat) :=
  ops.foldl (fun acc o => acc ++ [(edgesOf o).flatMap fun j => j :: acc.getD j []]) []

def opdTmps : Opd → List Nat
  | .tmp t => [t]
  | .const _ => []

def opdOTmps : Option Opd → List Nat
  | some x => opdTmps x
  | none => []

def COp.tmps : COp → List Nat
  | .mov x | .box x | .nilCheck x | .not x | .field _ x | .extract x _ | .len x | .load _ _ x | .clear _ x => opdTmps x
  | .pick a b c => opdTmps a ++ opdTmps b ++ opdTmps c
  | .new _ => []
  | .build _ ps | .buildSlice _ _ _ ps => ps.flatMap fun p => opdTmps p.2.2
  | .store _ x y | .bin _ x y | .eqv _ _ x y | .eqs _ _ x y | .makeSlice _ _ x y | .index _ x y | .append _ x y | .copy _ x y => opdTmps x ++ opdTmps y
  | .mkfunc _ l | .call _ l => l.flatMap opdTmps
  | .slice _ x a b c => opdTmps x ++ opdOTmps a ++ opdOTmps b ++ opdOTmps c
  | .callv g l => opdTmps g ++ l.flatMap opdTmps

def CStmt.reads (s : CStmt) : List Nat := s.op.tmps ++ (match s.guard with | some (t, _) => [t] | none => [])

/-- Two operations of which one surely comes ahead of the other one. -/
def inOrder (an : List (List Nat)) (i j : Nat) : Bool := decide (i = j) || (an.getD j []).contains i || (an.getD i []).contains j

/-- The kinds within a region that draws its order: an append counts as a changing operation where it has its place among these. -/
def kindsIn (ss : List CStmt) (an : List (List Nat)) : List Nat :=
  ss.zipIdx.map fun (s, i) =>
    if kindOf s.op = 2 then (if ss.zipIdx.all fun (r, j) => kindOf r.op < 2 || inOrder an i j then 3 else 1) else kindOf s.op

/-- Behind how many of the changing operations one surely comes. -/
def lowOf (an : List (List Nat)) (ks : List Nat) (j : Nat) : Nat := ((an.getD j []).eraseDups.filter fun i => ks.getD i 0 == 3).length

/-- The changing operations, in their order. -/
def changing (ks : List Nat) : List Nat := (List.range ks.length).filter fun i => ks.getD i 0 == 3

/-- The phase at whose end an operation comes at the latest: how many changing operations do not wait for it, of the first ones. -/
def phaseOf (an : List (List Nat)) (ks : List Nat) (j : Nat) : Nat :=
  if ks.getD j 0 == 3 then ((changing ks).takeWhile fun m => decide (m ≠ j)).length
  else ((changing ks).takeWhile fun m => !(an.getD m []).contains j).length

/-- The numbers in the order of the clean machine. -/
def orderOf (an : List (List Nat)) (ks : List Nat) : List Nat :=
  (List.range ((changing ks).length + 1)).flatMap fun p =>
    ((List.range ks.length).filter fun j => phaseOf an ks j == p && ks.getD j 0 != 3) ++ ((List.range ks.length).filter fun j => phaseOf an ks j == p && ks.getD j 0 == 3)

def compD (ss : List CStmt) (an : List (List Nat)) (ks : List Nat) : List DStmt :=
  (orderOf an ks).map fun j => { s := ss.getD j default, no := j, kind := ks.getD j 0, low := lowOf an ks j }

/-- The list of what comes ahead is closed, and leads down. -/
def ancOk (ops : List Oper) (an : List (List Nat)) : Bool :=
  ops.zipIdx.all fun (o, j) => (an.getD j []).all fun i => (edgesOf o).any fun e => decide (e < j) && (decide (i = e) || (an.getD e []).contains i)

/-- What the clean machine asks of a region that draws its order. -/
def dOk (ops : List Oper) (ss : List CStmt) (an : List (List Nat)) (l : List DStmt) : Bool :=
  ancOk ops an && (ops.zipIdx.all fun (o, i) => (edgesOf o).all fun j => decide (j < i)) && decide (l.length = ops.length) && decide (ss.length = ops.length) &&
  (l.all fun d => decide (d.no < ops.length) && (d.kind == 0 || d.kind == 1 || d.kind == 3) && (d.kind != 0 || kindOf d.s.op == 0)) &&
  ((List.range ops.length).all fun j => l.any fun d => d.no == j && ss[j]?.any fun s => s.dst == d.s.dst) &&
  (l.zipIdx.all fun (d, q) => l.zipIdx.all fun (c, r) =>
    (decide (q = r) || d.no != c.no) &&
    (match c.s.dst with
     | none => true
     | some t => (decide (q = r) || d.s.dst != some t) && (!d.s.reads.contains t || (decide (r < q) && (an.getD d.no []).contains c.no))) &&
    (!(c.kind == 3 && decide (r < q) && (d.kind == 3 || decide (((l.take r).filter fun x => x.kind == 3).length < d.low))) || (an.getD d.no []).contains c.no) &&
    (!(d.kind == 3 && c.kind != 3 && decide (r < q)) || (an.getD d.no []).contains c.no)) &&
  (l.zipIdx.all fun (d, q) => decide (d.low ≤ ((l.take q).filter fun x => x.kind == 3).length))

def compCode (P : Program) (n : Nat) : Code → Option CCode
  | .skip => some .skip
  | .region _ ops draw => (allSome (ops.toList.map (compStmt P n ops))).bind fun ss =>
      if draw then guardB (dOk ops.toList ss (ancs ops.toList) (compD ss (ancs ops.toList) (kindsIn ss (ancs ops.toList)))) (some (.dregion (compD ss (ancs ops.toList) (kindsIn ss (ancs ops.toList))))) else some (.region ss)
  | .seq a b => (compCode P n a).bind fun a => (compCode P n b).map fun b => .seq a b
  | .cond c a b => (opd c).bind fun c => (compCode P n a).bind fun a => (compCode P n b).map fun b => .cond c a b
  | .block id c => (compCode P n c).map (.block id)
  | .loop c => (compCode P n c).map .loop
  | .exit id => some (.exit id)
  | .ret => some .ret
  | _ => none

def compRes (P : Program) : ResultVar → Option CRes
  | .tmp t => some (.tmp t)
  | .cell a t => (isAggT P t).bind fun g => (sizeT P t).map fun n => .cell a g n

def compFunc (P : Program) (fn : Func) : Option CFunc :=
  guardB (fn.name != "runtime.NumGoroutine")
    (fn.body.bind fun c => (compCode P fn.ntmps c).bind fun b => (allSome (fn.results.toList.map (compRes P))).map fun rs => ⟨b, rs⟩)

def cprog (P : Program) : CProg := fun f => (P.funcs[f]?).bind (compFunc P)

end Go.Cs

/- How the clean machine's values and heap stand to the model's: the relation, and what loads, stores and new blocks do to it. -/
namespace Go.Cs
open Go Go.RowKit

/-- Where a block of the clean machine lies: the block, its first cell, the cells of an element, and how many cells the block has. -/
structure Tgt where
  c : Nat
  s : Nat
  esz : Nat
  size : Nat

abbrev Mu := Nat → Option Tgt

mutual
def V (μ : Mu) : CV → Value → Prop
  | .int k n, v => v = .int k n
  | .bool b, v => v = .bool b
  | .ptr b o, v => ∃ m, μ b = some m ∧ v = .pointer (some ⟨m.c, m.s + o, none⟩)
  | .nilPtr, v => v = .pointer none
  | .slice b o len cap e tail, v => ∃ m cap' off, μ b = some m ∧ m.esz = e ∧ v = .slice (some ⟨m.c, off, none⟩) len cap' ∧ len ≤ cap' ∧ (if tail = true then cap ≤ cap' else cap' = cap) ∧ (cap' = 0 ∨ off = m.s + o) ∧ off + cap' * m.esz ≤ m.size
  | .nilSlice, v => v = .slice none 0 0
  | .func f caps, v => ∃ vs, v = .func (.func f) #[] vs ∧ VL μ caps vs.toList
  | .nilFunc, v => v = .nilFunc
  | .agg cs, v => ∃ vs, v = .agg vs ∧ VL μ cs vs.toList
  | .tup cs, v => ∃ vs, v = .tuple vs ∧ VL μ cs vs.toList
def VL (μ : Mu) : List CV → List Value → Prop
  | [], vs => vs = []
  | c :: cs, vs => ∃ v rest, vs = v :: rest ∧ V μ c v ∧ VL μ cs rest
end

mutual
theorem V.mono {μ ν : Mu} (h : ∀ b m, μ b = some m → ν b = some m) : ∀ (c : CV) (v : Value), V μ c v → V ν c v
  | .int k n, v, e => by simpa [V] using e
  | .bool b, v, e => by simpa [V] using e
  | .ptr b o, v, e => by
    simp only [V] at e ⊢
    obtain ⟨m, hm, e⟩ := e
    exact ⟨m, h b m hm, e⟩
  | .nilPtr, v, e => by simpa [V] using e
  | .slice b o len cap z tail, v, e => by
    simp only [V] at e ⊢
    obtain ⟨m, c', off, hm, e⟩ := e
    exact ⟨m, c', off, h b m hm, e⟩
  | .nilSlice, v, e => by simpa [V] using e
  | .func f caps, v, e => by
    simp only [V] at e ⊢
    obtain ⟨vs, e, hl⟩ := e
    exact ⟨vs, e, VL.mono h caps _ hl⟩
  | .nilFunc, v, e => by simpa [V] using e
  | .agg cs, v, e => by
    simp only [V] at e ⊢
    obtain ⟨vs, e, hl⟩ := e
    exact ⟨vs, e, VL.mono h cs _ hl⟩
  | .tup cs, v, e => by
    simp only [V] at e ⊢
    obtain ⟨vs, e, hl⟩ := e
    exact ⟨vs, e, VL.mono h cs _ hl⟩
theorem VL.mono {μ ν : Mu} (h : ∀ b m, μ b = some m → ν b = some m) : ∀ (cs : List CV) (vs : List Value), VL μ cs vs → VL ν cs vs
  | [], vs, e => by simpa [VL] using e
  | c :: cs, vs, e => by
    simp only [VL] at e ⊢
    obtain ⟨v, rest, e, hv, hl⟩ := e
    exact ⟨v, rest, e, V.mono h c v hv, VL.mono h cs rest hl⟩
end

theorem VL.length {μ : Mu} : ∀ {cs : List CV} {vs : List Value}, VL μ cs vs → vs.length = cs.length
  | [], _, e => by simp only [VL] at e; simp [e]
  | _ :: cs, _, e => by
    simp only [VL] at e
    obtain ⟨v, rest, rfl, _, hl⟩ := e
    simp [VL.length hl]

theorem VL.get {μ : Mu} : ∀ {cs : List CV} {vs : List Value}, VL μ cs vs → ∀ {i : Nat} {c : CV}, cs[i]? = some c → ∃ v, vs[i]? = some v ∧ V μ c v
  | [], _, _, i, c, h => by simp at h
  | c :: cs, _, e, i, d, h => by
    simp only [VL] at e
    obtain ⟨v, rest, rfl, hv, hl⟩ := e
    cases i with
    | zero => simp at h; subst h; exact ⟨v, rfl, hv⟩
    | succ i => simpa using VL.get hl (by simpa using h)

theorem VL.of_get {μ : Mu} : ∀ {cs : List CV} {vs : List Value}, vs.length = cs.length → (∀ (i : Nat) (c : CV), cs[i]? = some c → ∃ v, vs[i]? = some v ∧ V μ c v) → VL μ cs vs
  | [], vs, hl, _ => by simp only [VL]; exact List.length_eq_zero_iff.1 hl
  | c :: cs, vs, hl, h => by
    match vs, hl with
    | v :: rest, hl =>
      simp only [VL]
      refine ⟨v, rest, rfl, ?_, VL.of_get (by simpa using hl) fun i d hd => ?_⟩
      · obtain ⟨u, hu, hv⟩ := h 0 c rfl
        simp at hu; subst hu; exact hv
      · obtain ⟨u, hu, hv⟩ := h (i + 1) d (by simpa using hd)
        exact ⟨u, by simpa using hu, hv⟩

theorem VL.append {μ : Mu} {as bs : List CV} {xs ys : List Value} (h : VL μ as xs) (k : VL μ bs ys) : VL μ (as ++ bs) (xs ++ ys) := by
  induction as generalizing xs with
  | nil => simp only [VL] at h; subst h; exact k
  | cons a as ih =>
    simp only [VL] at h
    obtain ⟨v, rest, rfl, hv, hl⟩ := h
    simp only [List.cons_append, VL]
    exact ⟨v, rest ++ ys, rfl, hv, ih hl⟩

theorem VL.take {μ : Mu} {as : List CV} {xs : List Value} (h : VL μ as xs) (n : Nat) : VL μ (as.take n) (xs.take n) := by
  refine VL.of_get (by simp [h.length]) fun i c hc => ?_
  rw [List.getElem?_take] at hc ⊢
  split at hc
  · rename_i hi; obtain ⟨v, hv, hV⟩ := h.get hc; exact ⟨v, by rw [if_pos hi]; exact hv, hV⟩
  · cases hc

theorem VL.drop {μ : Mu} {as : List CV} {xs : List Value} (h : VL μ as xs) (n : Nat) : VL μ (as.drop n) (xs.drop n) := by
  refine VL.of_get (by simp [h.length]) fun i c hc => ?_
  rw [List.getElem?_drop] at hc ⊢
  exact h.get hc

theorem VL.splice {μ : Mu} {as bs : List CV} {xs ys : List Value} (h : VL μ as xs) (k : VL μ bs ys) (o : Nat) : VL μ (splice as o bs) (xs.take o ++ ys ++ xs.drop (o + ys.length)) := by
  unfold Cs.splice
  rw [k.length]
  exact ((h.take o).append k).append (h.drop _)

theorem V.cells {μ : Mu} {c : CV} {v : Value} (h : V μ c v) : VL μ (cellsOf c) v.cells.toList := by
  cases c <;> simp only [V] at h <;> try (obtain ⟨vs, rfl, hl⟩ := h; exact hl)
  all_goals
    simp only [cellsOf, VL]
    refine ⟨v, [], ?_, ?_, rfl⟩
    · first
      | (subst h; rfl)
      | (obtain ⟨m, _, rfl⟩ := h; rfl)
      | (obtain ⟨m, c', off, _, _, rfl, _⟩ := h; rfl)
      | (obtain ⟨vs, rfl, hl⟩ := h; rfl)
    · simpa only [V] using h

theorem V.leaf {μ : Mu} {c : CV} {v : Value} (h : V μ c v) (hl : leaf c = true) : v.oneCell' = true := by
  cases c <;> simp only [V] at h <;> first
    | (subst h; rfl)
    | (obtain ⟨m, _, rfl⟩ := h; rfl)
    | (obtain ⟨m, c', off, _, _, rfl, _⟩ := h; rfl)
    | (obtain ⟨vs, rfl, _⟩ := h; first | rfl | simp [Cs.leaf] at hl)

theorem VL.leaf {μ : Mu} {cs : List CV} {vs : List Value} (h : VL μ cs vs) (hl : cs.all Cs.leaf = true) : ∀ v ∈ vs, v.oneCell' = true := by
  induction cs generalizing vs with
  | nil => simp only [VL] at h; subst h; simp
  | cons c cs ih =>
    simp only [VL] at h
    obtain ⟨v, rest, rfl, hv, hr⟩ := h
    simp only [List.all_cons, Bool.and_eq_true] at hl
    intro u hu
    rcases List.mem_cons.1 hu with rfl | hu
    · exact hv.leaf hl.1
    · exact ih hr hl.2 u hu

/-! ### The heap -/

/-- 'B': the world at the start: what lay there is as it was. 'K': blocks that are to be left alone. -/
structure Sim (K : Nat → Option Obj) (B : World) (μ : Mu) (H : CHeap) (w : World) : Prop where
  base : Below B.heap.size B w
  kept : ∀ c o, K c = some o → w.heap[c]? = some o
  blk : ∀ b blk m, H[b]? = some blk → blk.mode ≠ .dead → μ b = some m → ∃ arr T fz, w.heap[m.c]? = some (.cells arr T fz) ∧
    (∀ (i : Nat) (c : CV), blk.cells[i]? = some c → ∃ v, arr[m.s + i]? = some v ∧ V μ c v) ∧
    (blk.mode = .rw → m.esz = blk.esz ∧ arr.size = m.size ∧ m.s + blk.cells.length ≤ m.size ∧ fz = (0, 0) ∧ B.heap.size ≤ m.c ∧ K m.c = none) ∧
    (blk.mode = .ro → m.c < B.heap.size)
  inj : ∀ b1 b2 k1 k2 m1 m2, H[b1]? = some k1 → H[b2]? = some k2 → k1.mode = .rw → k2.mode ≠ .dead → b1 ≠ b2 → μ b1 = some m1 → μ b2 = some m2 → m1.c ≠ m2.c

/-- The relation asks nothing of blocks that are not there. -/
theorem Sim.congr {K : Nat → Option Obj} {B : World} {μ ν : Mu} {H : CHeap} {w : World} (h : Sim K B μ H w) (he : ∀ b, b < H.length → ν b = μ b) (hm : ∀ b m, μ b = some m → ν b = some m) : Sim K B ν H w := by
  have lt : ∀ {b : Nat} {k : Blk}, H[b]? = some k → b < H.length := fun e => (List.getElem?_eq_some_iff.1 e).1
  refine ⟨h.base, h.kept, fun b k m hb hd hv => ?_, fun b1 b2 k1 k2 m1 m2 h1 h2 r1 r2 hne e1 e2 => ?_⟩
  · rw [he b (lt hb)] at hv
    obtain ⟨arr, T, fz, hw, hc, hr⟩ := h.blk b k m hb hd hv
    exact ⟨arr, T, fz, hw, fun i c hi => let ⟨v, hv, hV⟩ := hc i c hi; ⟨v, hv, V.mono hm _ _ hV⟩, hr⟩
  · rw [he b1 (lt h1)] at e1
    rw [he b2 (lt h2)] at e2
    exact h.inj b1 b2 k1 k2 m1 m2 h1 h2 r1 r2 hne e1 e2

/-- A draw, or anything that leaves the heap and the streams as they are. -/
theorem Sim.same {K : Nat → Option Obj} {B : World} {μ : Mu} {H : CHeap} {w w' : World} (h : Sim K B μ H w) (hh : w'.heap = w.heap) (ho : w'.os = w.os) (ht : w'.tape = w.tape) (hu : w'.output = w.output) : Sim K B μ H w' :=
  ⟨⟨ho.trans h.base.os, ht.trans h.base.tape, hu.trans h.base.output, by rw [hh]; exact h.base.size, fun k hk => by rw [hh]; exact h.base.block k hk⟩,
    fun c o hc => by rw [hh]; exact h.kept c o hc, fun b k m hb hd hv => by rw [hh]; exact h.blk b k m hb hd hv, h.inj⟩

theorem Sim.load1 {K : Nat → Option Obj} {B : World} {μ : Mu} {H : CHeap} {w : World} (h : Sim K B μ H w) {b o : Nat} {c : CV} {m : Tgt} (hl : load1 H b o = some c) (hm : μ b = some m) :
    ∃ v, w.cell? ⟨m.c, m.s + o, none⟩ = some v ∧ V μ c v := by
  unfold Cs.load1 at hl
  split at hl
  · rename_i k hk
    split at hl
    · cases hl
    · rename_i hd
      obtain ⟨arr, T, fz, hw, hc, _⟩ := h.blk b k m hk hd hm
      obtain ⟨v, hv, hV⟩ := hc o c hl
      exact ⟨v, by simp [World.cell?, hw, hv], hV⟩
  · cases hl

theorem Sim.loadN {K : Nat → Option Obj} {B : World} {μ : Mu} {H : CHeap} {w : World} (h : Sim K B μ H w) {b o n : Nat} {cs : List CV} {m : Tgt} (hl : loadN H b o n = some cs) (hm : μ b = some m) :
    cs.length = n ∧ ∃ vs, VL μ cs vs ∧ ∀ j v, vs[j]? = some v → w.cell? ⟨m.c, m.s + o + j, none⟩ = some v := by
  unfold Cs.loadN at hl
  split at hl
  · rename_i k hk
    split at hl
    · cases hl
    · rename_i hd
      split at hl
      · rename_i hle
        simp only [Option.some.injEq] at hl
        subst hl
        obtain ⟨arr, T, fz, hw, hc, _⟩ := h.blk b k m hk hd hm
        have hlen : ((k.cells.drop o).take n).length = n := by simp; omega
        refine ⟨hlen, (List.range n).map (fun j => arr.getD (m.s + o + j) undef), ?_, ?_⟩
        · refine VL.of_get (by simp; omega) fun i c hi => ?_
          have hin : i < n := by have := (List.getElem?_eq_some_iff.1 hi).1; omega
          rw [List.getElem?_take, if_pos hin, List.getElem?_drop] at hi
          obtain ⟨v, hv, hV⟩ := hc _ c hi
          refine ⟨v, ?_, hV⟩
          simp only [List.getElem?_map, List.getElem?_range hin, Option.map_some]
          rw [Array.getD_eq_getD_getElem?, show m.s + o + i = m.s + (o + i) from by omega, hv]
          rfl
        · intro j v hv
          simp only [List.getElem?_map] at hv
          by_cases hj : j < n
          · rw [List.getElem?_range hj] at hv
            simp only [Option.map_some, Option.some.injEq] at hv
            have hx : k.cells[o + j]? = some (k.cells[o + j]'(by omega)) := List.getElem?_eq_getElem (by omega)
            obtain ⟨u, hu, _⟩ := hc _ _ hx
            rw [Array.getD_eq_getD_getElem?, show m.s + o + j = m.s + (o + j) from by omega, hu] at hv
            simp at hv
            subst hv
            simp [World.cell?, hw, show m.s + o + j = m.s + (o + j) from by omega, hu]
          · rw [List.getElem?_eq_none (by simp; omega)] at hv
            cases hv
      · cases hl
  · cases hl

theorem splice_length {l vs : List CV} {o : Nat} (h : o + vs.length ≤ l.length) : (splice l o vs).length = l.length := by
  simp [splice]; omega

/-- A row that has been written. -/
theorem Sim.write {K : Nat → Option Obj} {B : World} {μ : Mu} {H : CHeap} {w : World} (h : Sim K B μ H w) {b o : Nat} {cs : List CV} {vs : List Value} {H' : CHeap} {m : Tgt} (hs : storeN H b o cs = some H') (hm : μ b = some m) (hv : VL μ cs vs) :
    ∃ arr T, w.heap[m.c]? = some (.cells arr T (0, 0)) ∧ m.s + o + vs.length ≤ arr.size ∧ (∀ v ∈ vs, v.oneCell' = true) ∧
      Sim K B μ H' (w.setRow m.c (arr.toList.take (m.s + o) ++ vs ++ arr.toList.drop (m.s + o + vs.length)).toArray) ∧ H'.length = H.length := by
  unfold storeN at hs
  split at hs
  · rename_i k hk
    split at hs
    · rename_i hc
      obtain ⟨hrw, hle, hleaf⟩ := hc
      simp only [Option.some.injEq] at hs
      subst hs
      have hd : k.mode ≠ .dead := by rw [hrw]; decide
      obtain ⟨arr, T, fz, hw, hcell, hr, _⟩ := h.blk b k m hk hd hm
      obtain ⟨he, hsz, hfits, rfl, hB, hK⟩ := hr hrw
      have hfit : m.s + o + vs.length ≤ arr.size := by rw [hv.length, hsz]; omega
      refine ⟨arr, T, hw, hfit, hv.leaf hleaf, ⟨?_, ?_, ?_, ?_⟩, by simp⟩
      · refine h.base.trans ⟨rfl, rfl, rfl, by simp, fun q hq => setRow_other w m.c q _ (by omega)⟩
      · intro c x hx
        have hne : c ≠ m.c := fun e => by rw [e, hK] at hx; cases hx
        rw [setRow_other w m.c c _ hne]
        exact h.kept c x hx
      · intro b' k' m' hb' hd' hm'
        by_cases hbb : b' = b
        · subst hbb
          rw [hm] at hm'
          simp only [Option.some.injEq] at hm'
          subst hm'
          have hlt : b' < H.length := (List.getElem?_eq_some_iff.1 hk).1
          rw [List.getElem?_set_self hlt] at hb'
          simp only [Option.some.injEq] at hb'
          subst hb'
          have hlen : (arr.toList.take (m.s + o) ++ vs ++ arr.toList.drop (m.s + o + vs.length)).length = arr.size := by simp; omega
          refine ⟨_, T, (0, 0), setRow_heap w m.c arr _ T (0, 0) hw, fun i c hi => ?_, fun _ => ⟨he, ?_, ?_, rfl, hB, hK⟩, fun e => by rw [hrw] at e; cases e⟩
          · dsimp only at hi
            rw [List.getElem?_toArray]
            unfold splice at hi
            have hol : o ≤ k.cells.length := by omega
            have hol2 : m.s + o ≤ arr.toList.length := by simp; omega
            by_cases h1 : i < o
            · rw [List.append_assoc, List.getElem?_append_left (by simp; omega), List.getElem?_take, if_pos h1] at hi
              rw [List.append_assoc, List.getElem?_append_left (by simp; omega), List.getElem?_take, if_pos (by omega)]
              obtain ⟨v, hv, hV⟩ := hcell i c hi
              exact ⟨v, by simpa using hv, hV⟩
            · by_cases h2 : i < o + cs.length
              · rw [List.append_assoc, List.getElem?_append_right (by simp; omega), List.getElem?_append_left (by simp; omega)] at hi
                rw [List.append_assoc, List.getElem?_append_right (by simp; omega), List.getElem?_append_left (by simp [hv.length]; omega)]
                obtain ⟨v, hv, hV⟩ := hv.get hi
                refine ⟨v, ?_, hV⟩
                rw [← hv]
                congr 1
                simp
                omega
              · rw [List.append_assoc, List.getElem?_append_right (by simp; omega), List.getElem?_append_right (by simp; omega), List.getElem?_drop] at hi
                rw [List.append_assoc, List.getElem?_append_right (by simp; omega), List.getElem?_append_right (by simp [hv.length]; omega), List.getElem?_drop]
                obtain ⟨v, hv', hV⟩ := hcell _ c hi
                refine ⟨v, ?_, hV⟩
                rw [Array.getElem?_toList, ← hv']
                congr 1
                simp [hv.length]
                omega
          · rw [List.size_toArray, hlen, hsz]
          · rw [splice_length hle]; exact hfits
        · rw [List.getElem?_set_ne (Ne.symm hbb)] at hb'
          obtain ⟨arr', T', fz', hw', hc', hr'⟩ := h.blk b' k' m' hb' hd' hm'
          have hne : m'.c ≠ m.c := Ne.symm (h.inj b b' k k' m m' hk hb' hrw hd' (Ne.symm hbb) hm hm')
          exact ⟨arr', T', fz', by rw [setRow_other w m.c m'.c _ hne]; exact hw', hc', hr'⟩
      · intro b1 b2 k1 k2 m1 m2 h1 h2 r1 r2 hne e1 e2
        have get : ∀ {b' : Nat} {k' : Blk}, (H.set b { k with cells := splice k.cells o cs })[b']? = some k' → ∃ k'', H[b']? = some k'' ∧ k''.mode = k'.mode := by
          intro b' k' hb'
          by_cases hbb : b' = b
          · subst hbb
            rw [List.getElem?_set_self ((List.getElem?_eq_some_iff.1 hk).1)] at hb'
            simp only [Option.some.injEq] at hb'
            subst hb'
            exact ⟨k, hk, rfl⟩
          · rw [List.getElem?_set_ne (Ne.symm hbb)] at hb'
            exact ⟨k', hb', rfl⟩
        obtain ⟨q1, g1, f1⟩ := get h1
        obtain ⟨q2, g2, f2⟩ := get h2
        exact h.inj b1 b2 q1 q2 m1 m2 g1 g2 (f1.trans r1) (f2 ▸ r2) hne e1 e2
    · cases hs
  · cases hs

/-- A block that is made while the clean machine stands still is left alone till it catches up. -/
theorem Sim.alloc {K : Nat → Option Obj} {B : World} {μ : Mu} {H : CHeap} {w : World} (h : Sim K B μ H w) (o : Obj) : Sim (fun c => if c = w.heap.size then some o else K c) B μ H (w.alloc o) := by
  have old : ∀ {c : Nat}, c < w.heap.size → (w.alloc o).heap[c]? = w.heap[c]? := fun hc => heap_alloc_old w o _ hc
  refine ⟨h.base.alloc h.base.size o, fun c x hx => ?_, fun b k m hb hd hm => ?_, h.inj⟩
  · by_cases hc : c = w.heap.size
    · rw [if_pos hc] at hx
      simp only [Option.some.injEq] at hx
      subst hx; subst hc
      exact heap_alloc_new w _
    · rw [if_neg hc] at hx
      have := h.kept c x hx
      rw [old (Array.getElem?_eq_some_iff.1 this).1]
      exact this
  · obtain ⟨arr, T, fz, hw, hc, hr⟩ := h.blk b k m hb hd hm
    have hlt := (Array.getElem?_eq_some_iff.1 hw).1
    exact ⟨arr, T, fz, by rw [old hlt]; exact hw, hc, fun e => by
      obtain ⟨a1, a2, a3, a4, a5, a6⟩ := hr.1 e
      exact ⟨a1, a2, a3, a4, a5, by rw [if_neg (by omega)]; exact a6⟩, hr.2⟩

def Mu.set (μ : Mu) (b : Nat) (m : Tgt) : Mu := fun k => if k = b then some m else μ k

theorem Mu.set_self (μ : Mu) (b : Nat) (m : Tgt) : μ.set b m b = some m := by simp [Mu.set]
theorem Mu.set_ne (μ : Mu) {b k : Nat} (m : Tgt) (h : k ≠ b) : μ.set b m k = μ k := by simp [Mu.set, h]

/-- The clean machine catches up with a block that lies there. -/
theorem Sim.adopt {K : Nat → Option Obj} {B : World} {μ : Mu} {H : CHeap} {w : World} (h : Sim K B μ H w) {c : Nat} {arr : Array Value} {T : TypeId} (hK : K c = some (.cells arr T)) (hB : B.heap.size ≤ c)
    {k : Blk} (hk : k.mode = .rw) {s : Nat} (hl : s + k.cells.length ≤ arr.size) (hμ : μ H.length = some ⟨c, s, k.esz, arr.size⟩)
    (hv : ∀ (i : Nat) (x : CV), k.cells[i]? = some x → ∃ v, arr[s + i]? = some v ∧ V μ x v) :
    Sim (fun d => if d = c then none else K d) B μ (H ++ [k]) w := by
  have hw := h.kept c _ hK
  have get : ∀ {b : Nat} {q : Blk}, (H ++ [k])[b]? = some q → (b < H.length ∧ H[b]? = some q) ∨ (b = H.length ∧ q = k) := by
    intro b q hb
    rcases Nat.lt_trichotomy b H.length with hlt | heq | hgt
    · rw [List.getElem?_append_left hlt] at hb; exact .inl ⟨hlt, hb⟩
    · subst heq; rw [List.getElem?_concat_length] at hb; exact .inr ⟨rfl, by simpa using hb.symm⟩
    · rw [List.getElem?_eq_none (by simp; omega)] at hb; cases hb
  have far : ∀ {b : Nat} {q : Blk} {m : Tgt}, H[b]? = some q → q.mode = .rw → μ b = some m → m.c ≠ c := by
    intro b q m hb hq hm e
    obtain ⟨_, _, _, _, _, hr⟩ := h.blk b q m hb (by rw [hq]; decide) hm
    have := (hr.1 hq).2.2.2.2.2
    rw [e, hK] at this
    cases this
  refine ⟨h.base, fun d x hx => ?_, fun b q m hb hd hm => ?_, fun b1 b2 k1 k2 m1 m2 h1 h2 r1 r2 hne e1 e2 => ?_⟩
  · split at hx
    · cases hx
    · exact h.kept d x hx
  · rcases get hb with ⟨_, hb⟩ | ⟨rfl, rfl⟩
    · obtain ⟨a, T', fz, hw', hc, hr⟩ := h.blk b q m hb hd hm
      refine ⟨a, T', fz, hw', hc, fun e => ?_, hr.2⟩
      obtain ⟨a1, a2, a3, a4, a5, a6⟩ := hr.1 e
      exact ⟨a1, a2, a3, a4, a5, by rw [if_neg (far hb e hm)]; exact a6⟩
    · rw [hμ] at hm
      simp only [Option.some.injEq] at hm
      subst hm
      refine ⟨arr, T, (0, 0), hw, fun i x hi => ?_, fun _ => ⟨rfl, rfl, hl, rfl, hB, by simp⟩, fun e => by rw [hk] at e; cases e⟩
      exact hv i x hi
  · rcases get h1 with ⟨_, h1⟩ | ⟨l1, q1⟩ <;> rcases get h2 with ⟨_, h2⟩ | ⟨l2, q2⟩
    · exact h.inj b1 b2 k1 k2 m1 m2 h1 h2 r1 r2 hne e1 e2
    · rw [l2, hμ] at e2; simp only [Option.some.injEq] at e2; subst e2
      exact far h1 r1 e1
    · rw [l1, hμ] at e1; simp only [Option.some.injEq] at e1; subst e1
      obtain ⟨_, _, _, _, _, hr2⟩ := h.blk b2 k2 m2 h2 r2 e2
      cases hmd : k2.mode with
      | rw => exact Ne.symm (far h2 hmd e2)
      | ro => have := hr2.2 hmd; dsimp only; omega
      | dead => exact absurd hmd r2
    · exact absurd (l1.trans l2.symm) hne

/-- A block that is used no more. -/
theorem Sim.kill {K : Nat → Option Obj} {B : World} {μ : Mu} {H : CHeap} {w : World} (h : Sim K B μ H w) {b : Nat} {k : Blk} (hb : H[b]? = some k) : Sim K B μ (H.set b { k with mode := .dead }) w := by
  have get : ∀ {b' : Nat} {k' : Blk}, (H.set b { k with mode := .dead })[b']? = some k' → k'.mode ≠ .dead → H[b']? = some k' := by
    intro b' k' hb' hd
    by_cases hbb : b' = b
    · subst hbb
      rw [List.getElem?_set_self ((List.getElem?_eq_some_iff.1 hb).1)] at hb'
      simp only [Option.some.injEq] at hb'
      subst hb'
      exact absurd rfl hd
    · rw [List.getElem?_set_ne (Ne.symm hbb)] at hb'
      exact hb'
  refine ⟨h.base, h.kept, fun b' k' m hb' hd hm => h.blk b' k' m (get hb' hd) hd hm, fun b1 b2 k1 k2 m1 m2 h1 h2 r1 r2 hne e1 e2 => ?_⟩
  exact h.inj b1 b2 k1 k2 m1 m2 (get h1 (by rw [r1]; decide)) (get h2 r2) r1 r2 hne e1 e2

/-- A row of the model that belongs to a block that is now dead, or to nobody, is left alone; or it is taken over by a new block of the clean machine: what lies from its first cell on. -/
theorem Sim.own {K : Nat → Option Obj} {B : World} {μ : Mu} {H : CHeap} {w : World} (h : Sim K B μ H w) {b : Nat} {k : Blk} {m : Tgt} (hb : H[b]? = some k) (hrw : k.mode = .rw) (hm : μ b = some m) :
    ∃ arr T, w.heap[m.c]? = some (.cells arr T) ∧ arr.size = m.size ∧ m.esz = k.esz ∧ m.s + k.cells.length ≤ m.size ∧ B.heap.size ≤ m.c ∧
      Sim (fun d => if d = m.c then some (.cells arr T) else K d) B μ (H.set b { k with mode := .dead }) w := by
  obtain ⟨arr, T, fz, hw, hc, hr⟩ := h.blk b k m hb (by rw [hrw]; decide) hm
  obtain ⟨a1, a2, a3, rfl, a5, a6⟩ := hr.1 hrw
  refine ⟨arr, T, hw, a2, a1, a3, a5, ?_⟩
  have hk := h.kill hb
  refine ⟨hk.base, fun d x hx => ?_, fun b' k' m' hb' hd hm' => ?_, hk.inj⟩
  · split at hx
    · rename_i e; subst e; simp only [Option.some.injEq] at hx; subst hx; exact hw
    · exact hk.kept d x hx
  · obtain ⟨a, T', fz, hw', hc', hr'⟩ := hk.blk b' k' m' hb' hd hm'
    refine ⟨a, T', fz, hw', hc', fun e => ?_, hr'.2⟩
    obtain ⟨c1, c2, c3, c4, c5, c6⟩ := hr'.1 e
    have hne : b ≠ b' := fun e' => by
      subst e'
      rw [List.getElem?_set_self ((List.getElem?_eq_some_iff.1 hb).1)] at hb'
      simp only [Option.some.injEq] at hb'
      subst hb'
      exact hd rfl
    rw [List.getElem?_set_ne hne] at hb'
    have := h.inj b b' k k' m m' hb hb' hrw hd hne hm hm'
    exact ⟨c1, c2, c3, c4, c5, by rw [if_neg (Ne.symm this)]; exact c6⟩

end Go.Cs

/- Each operation of the model does what the clean machine's does. -/
namespace Go.Cs
open Go Go.RowKit

theorem cvLeaf_V {ν : Mu} {v : Value} {c : CV} (h : cvLeaf v = some c) : V ν c v := by
  unfold cvLeaf at h
  split at h <;> first | (simp only [Option.some.injEq] at h; subst h; simp [V]) | cases h

theorem opd_V {ν : Mu} {E : Env} {a : Act} {x : Operand} {y : Opd} (h : opd x = some y) (hE : ∀ t ∈ opdTmps y, V ν (E t) (a.tmps.getD t undef)) : V ν (E.ev y) (a.eval x) := by
  cases x with
  | tmp t =>
    simp only [opd, Option.some.injEq] at h
    subst h
    exact hE t (by simp [opdTmps])
  | const v =>
    simp only [opd, Option.map_eq_some_iff] at h
    obtain ⟨c, hc, rfl⟩ := h
    exact cvLeaf_V hc
  | global g => cases h
  | func f =>
    simp only [opd, Option.some.injEq] at h
    subst h
    simp only [Env.ev, Act.eval, V]
    exact ⟨#[], rfl, by simp [VL]⟩

theorem allSome_length {α : Type} : ∀ {l : List (Option α)} {r : List α}, allSome l = some r → r.length = l.length
  | [], r, h => by simp only [allSome, Option.some.injEq] at h; subst h; rfl
  | none :: _, r, h => by cases h
  | some a :: l, r, h => by
    simp only [allSome, Option.map_eq_some_iff] at h
    obtain ⟨q, hq, rfl⟩ := h
    simp [allSome_length hq]

theorem allSome_get {α : Type} : ∀ {l : List (Option α)} {r : List α}, allSome l = some r → ∀ {i : Nat} {x : α}, r[i]? = some x → l[i]? = some (some x)
  | [], r, h, i, x, hx => by simp only [allSome, Option.some.injEq] at h; subst h; simp at hx
  | none :: _, r, h, _, _, _ => by cases h
  | some a :: l, r, h, i, x, hx => by
    simp only [allSome, Option.map_eq_some_iff] at h
    obtain ⟨q, hq, rfl⟩ := h
    cases i with
    | zero => simpa using hx
    | succ i => simpa using allSome_get hq (by simpa using hx)

theorem opds_VL {ν : Mu} {E : Env} {a : Act} {l : Array Operand} {r : List Opd} (h : opds l = some r) (hE : ∀ t ∈ r.flatMap opdTmps, V ν (E t) (a.tmps.getD t undef)) :
    VL ν (r.map E.ev) (l.map a.eval).toList := by
  unfold opds at h
  refine VL.of_get (by simp [allSome_length h]) fun i c hc => ?_
  rw [List.getElem?_map, Option.map_eq_some_iff] at hc
  obtain ⟨y, hy, rfl⟩ := hc
  have hx := allSome_get h hy
  rw [List.getElem?_map, Option.map_eq_some_iff] at hx
  obtain ⟨x, hx, hxy⟩ := hx
  refine ⟨a.eval x, by simp [Array.getElem?_toList] at hx ⊢; exact ⟨x, hx, rfl⟩, opd_V hxy fun t ht => hE t ?_⟩
  exact List.mem_flatMap.2 ⟨y, List.mem_of_getElem? hy, ht⟩

theorem zeroOf_V {P : Program} {t : TypeId} {z : List CV} (ν : Mu) (h : zeroOf P t = some z) : ∃ i v, P.info? t = some i ∧ i.zero = some v ∧ VL ν z v.cells.toList := by
  unfold zeroOf at h
  rw [Option.bind_eq_some_iff] at h
  obtain ⟨i, hi, h⟩ := h
  rw [Option.bind_eq_some_iff] at h
  obtain ⟨v, hv, h⟩ := h
  refine ⟨i, v, hi, hv, VL.of_get (by simp [allSome_length h]) fun j c hc => ?_⟩
  have hx := allSome_get h hc
  rw [List.getElem?_map, Option.map_eq_some_iff] at hx
  obtain ⟨x, hx, hxy⟩ := hx
  exact ⟨x, hx, cvLeaf_V hxy⟩

/-! ### Filling a value part by part -/

theorem fill_foldl (off : Nat) : ∀ (vs : List Value) (k : Nat) (cs : Array Value), off + k + vs.length ≤ cs.size →
    ((vs.zipIdx k).foldl (fun cs (c, j) => cs.setIfInBounds (off + j) c) cs).toList = cs.toList.take (off + k) ++ vs ++ cs.toList.drop (off + k + vs.length)
  | [], k, cs, _ => by simp
  | v :: vs, k, cs, h => by
    simp only [List.length_cons] at h
    rw [List.zipIdx_cons, List.foldl_cons, fill_foldl off vs (k + 1) _ (by simp; omega)]
    have e := list_seg_step cs.toList (off + k) v vs (by simp; omega)
    simpa [Array.toList_setIfInBounds, Nat.add_assoc] using e

theorem fill_V {ν : Mu} {place : Nat → Option (Nat × Nat)} : ∀ {ps : List (Nat × Value)} {qs : List (Nat × Nat × CV)} {cs zs : List CV} {arr : Array Value},
    qs.length = ps.length → (∀ (i : Nat) (q : Nat × Nat × CV), qs[i]? = some q → ∃ p, ps[i]? = some p ∧ place p.1 = some (q.1, q.2.1) ∧ V ν q.2.2 p.2) →
    VL ν cs arr.toList → fill cs qs = some zs → ∃ out, Instr.fill place arr ps = some out ∧ VL ν zs out.toList
  | [], [], cs, zs, arr, _, _, hv, hf => by
    simp only [fill, Option.some.injEq] at hf
    subst hf
    exact ⟨arr, rfl, hv⟩
  | p :: ps, q :: qs, cs, zs, arr, hl, h, hv, hf => by
    obtain ⟨off, size, c⟩ := q
    simp only [fill] at hf
    split at hf
    · rename_i hc
      obtain ⟨hc1, hc2⟩ := hc
      obtain ⟨p', hp', hpl, hV⟩ := h 0 _ rfl
      simp at hp'
      subst hp'
      obtain ⟨i, v⟩ := p
      dsimp only at hpl hV
      have hcl := hV.cells
      have hlen : v.cells.size = size := by have := hcl.length; simp at this; omega
      have hal : arr.size = cs.length := by have := hv.length; simpa using this
      simp only [Instr.fill, hpl]
      rw [if_neg (by simp; omega)]
      have hfold : (v.cells.zipIdx.foldl (fun cs x => cs.setIfInBounds (off + x.2) x.1) arr).toList = arr.toList.take off ++ v.cells.toList ++ arr.toList.drop (off + v.cells.toList.length) := by
        have := fill_foldl off v.cells.toList 0 arr (by simp; omega)
        simp only [Nat.add_zero] at this
        rw [← this, ← Array.foldl_toList, Array.toList_zipIdx]
      refine fill_V (by simpa using hl) (fun i q hq => by simpa using h (i + 1) q (by simpa using hq)) ?_ hf
      rw [hfold]
      exact hv.splice hcl off
    · cases hf
  | [], _ :: _, _, _, _, hl, _, _, _ => by simp at hl
  | _ :: _, [], _, _, _, hl, _, _, _ => by simp at hl

theorem compParts_V {P : Program} {ν : Mu} {E : Env} {a : Act} {place : Nat → Option (Nat × Nat)} {parts : Array (Nat × Operand)} {ps : List (Nat × Nat × Opd)} (h : compParts P place parts = some ps)
    (hE : ∀ t ∈ ps.flatMap (fun p => opdTmps p.2.2), V ν (E t) (a.tmps.getD t undef)) {cs zs : List CV} {arr : Array Value} (hv : VL ν cs arr.toList) (hf : fill cs (evParts E ps) = some zs) :
    ∃ out, Instr.fill place arr (parts.map fun x => (x.1, a.eval x.2)).toList = some out ∧ VL ν zs out.toList := by
  unfold compParts at h
  refine fill_V (by simp [evParts, allSome_length h]) (fun i q hq => ?_) hv hf
  simp only [evParts, List.getElem?_map, Option.map_eq_some_iff] at hq
  obtain ⟨y, hy, rfl⟩ := hq
  have hx := allSome_get h hy
  rw [List.getElem?_map, Option.map_eq_some_iff] at hx
  obtain ⟨x, hx, hxy⟩ := hx
  obtain ⟨j, x⟩ := x
  rw [Option.bind_eq_some_iff] at hxy
  obtain ⟨pl, hpl, hxy⟩ := hxy
  rw [Option.map_eq_some_iff] at hxy
  obtain ⟨z, hz, rfl⟩ := hxy
  refine ⟨(j, a.eval x), by simp [Array.getElem?_toList] at hx ⊢; exact ⟨_, _, hx, rfl, rfl⟩, hpl, opd_V hz fun t ht => hE t ?_⟩
  exact List.mem_flatMap.2 ⟨_, List.mem_of_getElem? hy, ht⟩

end Go.Cs

/- The operations that change nothing that exists. -/
namespace Go.Cs
open Go Go.RowKit

structure Streams (w w' : World) : Prop where
  os : w'.os = w.os
  tape : w'.tape = w.tape
  output : w'.output = w.output

theorem Streams.refl (w : World) : Streams w w := ⟨rfl, rfl, rfl⟩

/-- What a steady operation of the clean machine says of the model's. -/
def MkR (P : Program) (s : Sem Next) (w : World) (m : Option Blk × (Nat → CV)) (ν : Mu) : Prop :=
  ∃ v' w', s.run P w = .ok (.value v') w' ∧ Streams w w' ∧
    match m.1 with
    | none => w'.heap = w.heap ∧ ∀ k, V ν (m.2 k) v'
    | some blk => blk.mode = .rw ∧ ∃ arr T, w'.heap = w.heap.push (.cells arr T) ∧ blk.cells.length ≤ arr.size ∧
        (∀ (i : Nat) (x : CV), blk.cells[i]? = some x → ∃ v, arr[i]? = some v ∧ V ν x v) ∧
        ∀ (ρ : Mu) (k : Nat), (∀ b m, ν b = some m → ρ b = some m) → ρ k = some ⟨w.heap.size, 0, blk.esz, arr.size⟩ → V ρ (m.2 k) v'

theorem MkR.stay {P : Program} {s : Sem Next} {w : World} {f : Nat → CV} {ν : Mu} {v' : Value} (h : s.run P w = .ok (.value v') w) (hv : ∀ k, V ν (f k) v') : MkR P s w (none, f) ν :=
  ⟨v', w, h, .refl w, rfl, hv⟩

theorem MkR.made {P : Program} {s : Sem Next} {w : World} {f : Nat → CV} {ν : Mu} {v' : Value} {cells : List CV} {esz : Nat} {arr : Array Value} {T : TypeId} (h : s.run P w = .ok (.value v') (w.alloc (.cells arr T)))
    (hc : VL ν cells arr.toList) (hv : ∀ (ρ : Mu) (k : Nat), (∀ b m, ν b = some m → ρ b = some m) → ρ k = some ⟨w.heap.size, 0, esz, arr.size⟩ → V ρ (f k) v') : MkR P s w (some ⟨cells, .rw, esz⟩, f) ν := by
  refine ⟨v', _, h, ⟨rfl, rfl, rfl⟩, rfl, arr, T, rfl, ?_, fun i x hi => ?_, hv⟩
  · have := hc.length; simp at this; simp [this]
  · obtain ⟨v, hv, hV⟩ := hc.get hi; exact ⟨v, by simpa using hv, hV⟩

section
variable {P : Program} {ν : Mu} {E : Env} {a : Act} {w : World} {H : CHeap} {K : Nat → Option Obj} {B : World}

theorem isAggT_run {t : TypeId} {g : Bool} (h : isAggT P t = some g) : (isAgg t).run P w = .ok g w := by
  unfold isAggT at h
  rw [Option.map_eq_some_iff] at h
  obtain ⟨d, hd, rfl⟩ := h
  simp only [isAgg, Sem.run_bind, run_underlying hd, Result.andThen_ok]
  cases d <;> rfl

theorem sizeT_info {t : TypeId} {n : Nat} (h : sizeT P t = some n) : ∃ i, P.info? t = some i ∧ i.size = n := by
  unfold sizeT at h
  rw [Option.map_eq_some_iff] at h
  exact h

theorem sizeT_run {t : TypeId} {n : Nat} (h : sizeT P t = some n) : (sizeOf t).run P w = .ok n w := by
  obtain ⟨i, hi, rfl⟩ := sizeT_info h
  simp [sizeOf, typeInfo, hi]

theorem typeInfo_run {t : TypeId} {i : TypeInfo} (h : P.info? t = some i) : (typeInfo t).run P w = .ok i w := by simp [typeInfo, h]

theorem zeroValue_run {t : TypeId} {i : TypeInfo} {v : Value} (h : P.info? t = some i) (hz : i.zero = some v) : (zeroValue t).run P w = .ok v w := by simp [zeroValue, typeInfo, h, hz]

theorem sliceElem_und {t e : TypeId} (h : sliceElem P t = some e) : P.underlying t = some (.slice e) := by
  unfold sliceElem at h
  split at h
  · rename_i h'; simp only [Option.some.injEq] at h; subst h; exact h'
  · cases h

theorem guardB_some {α : Type} {b : Bool} {x : Option α} {r : α} (h : guardB b x = some r) : b = true ∧ x = some r := by
  unfold guardB at h
  split at h
  · exact ⟨by assumption, h⟩
  · cases h

/-- The value of a load. -/
theorem load_run (hS : Sim K B ν H w) {t : TypeId} {g : Bool} {n b o : Nat} (hg : isAggT P t = some g) (hn : sizeT P t = some n) {v : CV} (hl : (if g = true then (loadN H b o n).map .agg else load1 H b o) = some v) {m : Tgt} (hm : ν b = some m) :
    ∃ v', (loadVar t ⟨m.c, m.s + o, none⟩).run P w = .ok v' w ∧ V ν v v' := by
  simp only [loadVar, Sem.run_bind, isAggT_run hg, Result.andThen_ok]
  cases g with
  | true =>
    simp only [if_true, Option.map_eq_some_iff] at hl ⊢
    obtain ⟨cs, hcs, rfl⟩ := hl
    obtain ⟨hlen, vs, hvs, hcell⟩ := hS.loadN hcs hm
    have hvl : vs.length = n := by rw [hvs.length, hlen]
    have hr := run_loadCells_list (P := P) w ⟨m.c, m.s + o, none⟩ vs (fun j v hv => by rw [Addr.add_lit]; exact hcell j v hv)
    rw [hvl] at hr
    refine ⟨.agg vs.toArray, by simp [sizeT_run hn, hr], ?_⟩
    simp only [V]
    exact ⟨_, rfl, by simpa using hvs⟩
  | false =>
    simp only [Bool.false_eq_true, if_false] at hl ⊢
    obtain ⟨v', hv', hV⟩ := hS.load1 hl hm
    exact ⟨v', by simp [hv'], hV⟩

theorem sim_bin {op : BinOp} {t : TypeId} {x y : Operand} {k : IntKind} {p q : Int} {r : CV} (hx : a.eval x = .int k p) (hy : a.eval y = .int k q) (h : intOp op k p q = some r) :
    ∃ v', (do eqGuard op t x y (a.eval x) (a.eval y); binOp op t (a.eval x) (a.eval y) : Sem Value).run P w = .ok v' w ∧ V ν r v' := by
  rw [hx, hy]
  cases op <;> simp only [intOp] at h
  case quo =>
    split at h
    · cases h
    · rename_i h0; simp only [Option.some.injEq] at h; subst h; exact ⟨.int k (k.wrap (p.tdiv q)), by simp [binOp, eqGuard, Op.intDiv, h0], by simp [V]⟩
  case rem =>
    split at h
    · cases h
    · rename_i h0; simp only [Option.some.injEq] at h; subst h; exact ⟨.int k (p.tmod q), by simp [binOp, eqGuard, Op.intDiv, h0], by simp [V]⟩
  all_goals first
    | cases h; done
    | (simp only [Option.some.injEq] at h; subst h; refine ⟨_, by simp [binOp, eqGuard, Op.intArith, Op.intCmp]; rfl, ?_⟩; simp [V])

/-- The fields of a struct of integers, compared one by one. -/
theorem eqFields_run (d : Nat) (xs ys : Array Value) : ∀ (fs : List Field) (k : Nat) (cs ds : List CV) (r : Bool),
    (∀ i f, fs[i]? = some f → f.name ≠ "_" ∧ f.offset = k + i ∧ ∃ kd, P.underlying f.type = some (.int kd)) →
    VL ν cs (xs.toList.drop k) → VL ν ds (ys.toList.drop k) → cs.length = fs.length → eqCells cs ds = some r →
    (Op.eqFields (d + 1) xs ys fs).run P w = .ok r w
  | [], k, cs, ds, r, _, hx, hy, hl, he => by
    match cs, ds, hl, he with
    | [], [], _, he => simp only [eqCells, Option.some.injEq] at he; subst he; simp [Op.eqFields]
  | f :: fs, k, cs, ds, r, hf, hx, hy, hl, he => by
    obtain ⟨hname, hoff, hty⟩ := hf 0 f rfl
    simp only [Nat.add_zero] at hoff
    match cs, ds, hl with
    | c :: cs, [], _ => cases c <;> simp [eqCells] at he
    | c :: cs, e :: ds, hl =>
      have hx1 := hx
      have hy1 := hy
      simp only [VL] at hx1 hy1
      obtain ⟨v, xr, hxe, hxv, hxr⟩ := hx1
      obtain ⟨u, yr, hye, hyv, hyr⟩ := hy1
      have gx : xs[k]? = some v := by
        have : (xs.toList.drop k)[0]? = some v := by rw [hxe]; rfl
        simpa [List.getElem?_drop] using this
      have gy : ys[k]? = some u := by
        have : (ys.toList.drop k)[0]? = some u := by rw [hye]; rfl
        simpa [List.getElem?_drop] using this
      have dx : xs.toList.drop (k + 1) = xr := by rw [← List.drop_drop (i := 1) (j := k)] <;> simp [hxe, Nat.add_comm]
      have dy : ys.toList.drop (k + 1) = yr := by rw [← List.drop_drop (i := 1) (j := k)] <;> simp [hye, Nat.add_comm]
      have part : ∀ (zs : Array Value) (z : Value), zs[k]? = some z → (part f.type zs f.offset).run P w = .ok z w := by
        intro zs z hz
        have hna : (isAgg f.type).run P w = .ok false w := by
          obtain ⟨kd, h⟩ := hty; simp [isAgg, run_underlying h]
        simp only [Go.part, Sem.run_bind, hna, Result.andThen_ok, Bool.false_eq_true, if_false, hoff, hz, Sem.run_pure]
      have rest := fun r' (he' : eqCells cs ds = some r') => eqFields_run d xs ys fs (k + 1) cs ds r' (fun i g hg => by
        have := hf (i + 1) g (by simpa using hg)
        exact ⟨this.1, by omega, this.2.2⟩) (by rw [dx]; exact hxr) (by rw [dy]; exact hyr) (by simpa using hl) he'
      simp only [Op.eqFields, hname, ne_eq, not_false_eq_true, if_true, Sem.run_bind, part _ _ gx, part _ _ gy, Result.andThen_ok]
      cases c <;> cases e <;> simp only [eqCells] at he <;> try (cases he; done)
      · rename_i k1 p k2 q
        split at he
        · rename_i hk
          subst hk
          rw [Option.map_eq_some_iff] at he
          obtain ⟨r', he', hr⟩ := he
          simp only [V] at hxv hyv
          subst hxv; subst hyv
          obtain ⟨kd, h⟩ := hty
          rw [run_equalIn_int w d f.type k1 kd p q h]
          simp only [Result.andThen_ok]
          cases hpq : (p == q)
          · simp [hpq] at hr; subst hr; simp
          · simp [hpq] at hr; subst hr; simp [rest _ he']
        · cases he

theorem flat_fields {t : TypeId} (h : flatStruct P t = true) : ∃ fs, P.underlying t = some (.struct fs) ∧ P.stoodInHeld t = false ∧ P.eqGuardType P.depth t = false ∧
    ∀ i f, fs.toList[i]? = some f → f.name ≠ "_" ∧ f.offset = 0 + i ∧ ∃ kd, P.underlying f.type = some (.int kd) := by
  unfold flatStruct at h
  split at h
  · rename_i fs hu
    simp only [Bool.and_eq_true, Bool.not_eq_true'] at h
    obtain ⟨⟨h1, h2⟩, h3⟩ := h
    refine ⟨fs, hu, h1, h2, fun i f hf => ?_⟩
    rw [List.all_eq_true] at h3
    have hm : (f, i) ∈ fs.toList.zipIdx := by
      rw [List.mem_iff_getElem?]
      exact ⟨i, by simp [List.getElem?_zipIdx, hf]⟩
    have := h3 _ hm
    simp only [Bool.and_eq_true, bne_iff_ne, ne_eq, beq_iff_eq] at this
    obtain ⟨⟨g1, g2⟩, g3⟩ := this
    refine ⟨g1, by omega, ?_⟩
    split at g3
    · rename_i kd hk; exact ⟨kd, hk⟩
    · cases g3
  · cases h

theorem sim_eqv_flat {t : TypeId} {x y : Operand} {cs ds : List CV} {r : Bool} {vx vy : Value} (hf : flatStruct P t = true) (hx : V ν (.agg cs) vx) (hy : V ν (.agg ds) vy) (he : eqCells cs ds = some r) (hl : ∃ fs, P.underlying t = some (.struct fs) ∧ cs.length = fs.size) :
    (eqGuard .eql t x y vx vy).run P w = .ok () w ∧ (eqGuard .neq t x y vx vy).run P w = .ok () w ∧
    (binOp .eql t vx vy).run P w = .ok (.bool r) w ∧ (binOp .neq t vx vy).run P w = .ok (.bool (!r)) w := by
  obtain ⟨fs, hu, h1, h2, h3⟩ := flat_fields hf
  simp only [V] at hx hy
  obtain ⟨xs, rfl, hxs⟩ := hx
  obtain ⟨ys, rfl, hys⟩ := hy
  obtain ⟨fs', hu', hlen⟩ := hl
  rw [hu] at hu'
  simp only [Option.some.injEq, TypeDesc.struct.injEq] at hu'
  subst hu'
  have hfo : P.fieldsOf t = fs := by simp [Program.fieldsOf, hu]
  have hrun := eqFields_run (P := P) (w := w) 9998 xs ys fs.toList 0 cs ds r h3 (by simpa using hxs) (by simpa using hys) (by simpa using hlen) he
  have heq : (Op.equalIn 10000 t (.agg xs) (.agg ys)).run P w = .ok r w := by
    rw [show (10000 : Nat) = 9999 + 1 from rfl, run_equalIn_agg w 9999 t xs ys (by rw [hfo]; exact hu) h1, hfo]
    exact hrun
  exact ⟨run_eqGuard_agg w .eql t x y xs ys h2, run_eqGuard_agg w .neq t x y xs ys h2, by rw [run_eql_struct, heq]; rfl, by rw [run_neq_struct, heq]; rfl⟩
end
end Go.Cs

/- Each steady operation: the model's run. -/
namespace Go.Cs
open Go Go.RowKit

theorem wrap_small {n : Int} (h : 0 ≤ n) (h' : n ≤ 16777216) : IntKind.i64.wrap n = n := by
  have e : n % (2 ^ 64 : Int) = n := by omega
  simp only [IntKind.wrap, IntKind.bits, IntKind.signed, e]
  split
  · rename_i hc; simp at hc; omega
  · rfl

section
variable {P : Program} {ν : Mu} {E : Env} {a : Act} {w : World} {H : CHeap} {K : Nat → Option Obj} {B : World}

theorem bound_run {x : Operand} {y : Opd} (h : opd x = some y) (hE : ∀ t ∈ opdTmps y, V ν (E t) (a.tmps.getD t undef)) {m m' r : Nat} {code : BoundsCode} (hb : bound E y m = some r) (hm : m ≤ m') :
    (Instr.sliceBound (a.eval x) m' code).run P w = .ok r w ∧ r ≤ m := by
  have hv := opd_V h hE
  unfold bound at hb
  split at hb
  · rename_i k i he
    split at hb
    · rename_i hc
      simp only [Option.some.injEq] at hb
      subst hb
      rw [he] at hv
      simp only [V] at hv
      rw [hv]
      have : 0 ≤ i ∧ i ≤ (m' : Int) := ⟨hc.1, by omega⟩
      exact ⟨by simp [Instr.sliceBound, asIntOf, this], by omega⟩
    · cases hb
  · cases hb

theorem opdO_cases {x : Option Operand} {y : Option Opd} (h : opdO x = some y) : (x = none ∧ y = none) ∨ ∃ p q, x = some p ∧ y = some q ∧ opd p = some q := by
  cases x with
  | none => simp only [opdO, Option.some.injEq] at h; exact .inl ⟨rfl, h.symm⟩
  | some p =>
    simp only [opdO, Option.map_eq_some_iff] at h
    obtain ⟨q, hq, rfl⟩ := h
    exact .inr ⟨p, q, rfl, rfl, hq⟩

theorem sliceBnds_run {lo hi mx : Option Operand} {lo' hi' mx' : Option Opd} {len cap cap' : Nat} {r : Nat × Nat × Nat} (hlo : opdO lo = some lo') (hhi : opdO hi = some hi') (hmx : opdO mx = some mx')
    (hE : ∀ t ∈ opdOTmps lo' ++ opdOTmps hi' ++ opdOTmps mx', V ν (E t) (a.tmps.getD t undef)) (hl : len ≤ cap) (hc : cap ≤ cap') (h : sliceBnds E len cap lo' hi' mx' = some r) :
    (Instr.sliceBounds true len cap' (lo.map a.eval) (hi.map a.eval) (mx.map a.eval)).run P w = .ok (r.1, r.2.1, if mx'.isSome then r.2.2 else cap') w ∧ r.1 ≤ r.2.1 ∧ r.2.1 ≤ r.2.2 ∧ r.2.2 ≤ cap ∧ (mx'.isSome = false → r.2.2 = cap) := by
  have El : ∀ q, lo' = some q → ∀ t ∈ opdTmps q, V ν (E t) (a.tmps.getD t undef) := fun q hq t ht => hE t (by simp [hq, opdOTmps, ht])
  have Eh : ∀ q, hi' = some q → ∀ t ∈ opdTmps q, V ν (E t) (a.tmps.getD t undef) := fun q hq t ht => hE t (by simp [hq, opdOTmps, ht])
  have Em : ∀ q, mx' = some q → ∀ t ∈ opdTmps q, V ν (E t) (a.tmps.getD t undef) := fun q hq t ht => hE t (by simp [hq, opdOTmps, ht])
  unfold sliceBnds at h
  split at h
  · cases h
  · rename_i hmh
    rw [Option.bind_eq_some_iff] at h
    obtain ⟨m, hm, h⟩ := h
    rw [Option.bind_eq_some_iff] at h
    obtain ⟨hh, hhh, h⟩ := h
    rw [Option.bind_eq_some_iff] at h
    obtain ⟨l, hll, h⟩ := h
    simp only [Option.some.injEq] at h
    subst h
    unfold Instr.sliceBounds
    rcases opdO_cases hmx with ⟨rfl, rfl⟩ | ⟨pm, qm, rfl, rfl, hpm⟩
    · simp only [boundO, Option.some.injEq] at hm
      subst hm
      rcases opdO_cases hhi with ⟨rfl, rfl⟩ | ⟨ph, qh, rfl, rfl, hph⟩
      · simp only [boundO, Option.some.injEq] at hhh
        subst hhh
        rcases opdO_cases hlo with ⟨rfl, rfl⟩ | ⟨pl, ql, rfl, rfl, hpl⟩
        · simp only [boundO, Option.some.injEq] at hll
          subst hll
          simp; omega
        · obtain ⟨r1, r2⟩ := bound_run (P := P) (w := w) (code := .sliceB) hpl (El _ rfl) hll (Nat.le_refl _)
          simp [r1]; omega
      · obtain ⟨h1, h2⟩ := bound_run (P := P) (w := w) (code := .sliceAcap) hph (Eh _ rfl) hhh hc
        rcases opdO_cases hlo with ⟨rfl, rfl⟩ | ⟨pl, ql, rfl, rfl, hpl⟩
        · simp only [boundO, Option.some.injEq] at hll
          subst hll
          simp [h1]; omega
        · obtain ⟨r1, r2⟩ := bound_run (P := P) (w := w) (code := .sliceB) hpl (El _ rfl) hll (Nat.le_refl _)
          simp [h1, r1]; omega
    · obtain ⟨m1, m2⟩ := bound_run (P := P) (w := w) (code := .slice3Acap) hpm (Em _ rfl) hm hc
      rcases opdO_cases hhi with ⟨rfl, rfl⟩ | ⟨ph, qh, rfl, rfl, hph⟩
      · simp at hmh
      · obtain ⟨h1, h2⟩ := bound_run (P := P) (w := w) (code := .slice3B) hph (Eh _ rfl) hhh (Nat.le_refl _)
        rcases opdO_cases hlo with ⟨rfl, rfl⟩ | ⟨pl, ql, rfl, rfl, hpl⟩
        · simp only [boundO, Option.some.injEq] at hll
          subst hll
          simp [m1, h1]; omega
        · obtain ⟨r1, r2⟩ := bound_run (P := P) (w := w) (code := .slice3C) hpl (El _ rfl) hll (Nat.le_refl _)
          simp [m1, h1, r1]; omega

theorem slice_run {t e : TypeId} {n : Nat} {x : Operand} {y : Opd} {lo hi mx : Option Operand} {lo' hi' mx' : Option Opd} {r : CV}
    (hu : P.underlying t = some (.slice e)) (hn : sizeT P e = some n) (hx : opd x = some y) (hlo : opdO lo = some lo') (hhi : opdO hi = some hi') (hmx : opdO mx = some mx')
    (hE : ∀ t ∈ COp.tmps (.slice n y lo' hi' mx'), V ν (E t) (a.tmps.getD t undef)) (h : sliceTo E n (E.ev y) lo' hi' mx' = some r) :
    ∃ v', (Instr.sliceAt t (a.eval x) (lo.map a.eval) (hi.map a.eval) (mx.map a.eval)).run P w = .ok v' w ∧ V ν r v' := by
  have hv := opd_V hx (fun t ht => hE t (by simp [COp.tmps, ht]))
  have hE' : ∀ t ∈ opdOTmps lo' ++ opdOTmps hi' ++ opdOTmps mx', V ν (E t) (a.tmps.getD t undef) := fun t ht => hE t (by simp [COp.tmps] at ht ⊢; rcases ht with h | h | h <;> simp [h])
  generalize E.ev y = cy at *
  unfold sliceTo at h
  simp only [Instr.sliceAt, Sem.run_bind, run_underlying hu, Result.andThen_ok, Instr.slice]
  split at h
  · simp only [V] at hv
    rw [hv]
    rw [Option.map_eq_some_iff] at h
    obtain ⟨q, hq, rfl⟩ := h
    obtain ⟨hr, h1, h2, h3, h4⟩ := sliceBnds_run (P := P) (w := w) (cap' := 0) hlo hhi hmx hE' (Nat.le_refl 0) (Nat.le_refl 0) hq
    have e1 : q.2.2 = 0 := by omega
    have e2 : q.2.1 = 0 := by omega
    have e3 : q.1 = 0 := by omega
    refine ⟨.slice none 0 0, ?_, by simp [V]⟩
    simp [hr, sizeT_run hn, e1, e2, e3]
  · rename_i b o len cap e' tail
    split at h
    · rename_i hlc
      obtain ⟨rfl, hlc⟩ := hlc
      rw [Option.map_eq_some_iff] at h
      obtain ⟨q, hq, rfl⟩ := h
      simp only [V] at hv
      obtain ⟨m, cap', off, hb, hez, he, hlen, htail, hoff, hfit⟩ := hv
      have hcc : cap ≤ cap' := by split at htail <;> omega
      obtain ⟨hr, h1, h2, h3, h4⟩ := sliceBnds_run (P := P) (w := w) hlo hhi hmx hE' hlc hcc hq
      rw [he]
      generalize hM : (if mx'.isSome = true then q.2.2 else cap') = M at hr
      have hMc : M ≤ cap' := by rw [← hM]; split <;> omega
      have hMh : q.2.1 ≤ M := by rw [← hM]; split <;> omega
      refine ⟨.slice (if M = q.1 then some ⟨m.c, off, none⟩ else some ((⟨m.c, off, none⟩ : Addr).add (q.1 * e'))) (q.2.1 - q.1) (M - q.1), by simp [hr, sizeT_run hn], ?_⟩
      simp only [V]
      rcases Nat.eq_or_lt_of_le (Nat.le_trans h1 hMh) with heq | hlt
      · refine ⟨m, 0, off, hb, hez, by rw [if_pos heq.symm, ← heq, Nat.sub_self], by omega, ?_, .inl rfl, ?_⟩
        · split
          · rename_i ht
            simp only [Bool.and_eq_true, Option.isNone_iff_eq_none] at ht
            have : mx'.isSome = false := by simp [ht.2]
            rw [this] at hM
            simp at hM
            have := h4 this
            omega
          · rename_i ht
            cases hmx' : mx'.isSome with
            | true => rw [hmx'] at hM; simp at hM; omega
            | false =>
              rw [hmx'] at hM
              simp at hM
              have := h4 hmx'
              omega
        · have : 0 ≤ cap' * m.esz := Nat.zero_le _
          omega
      · have hcap0 : 0 < cap' := by omega
        have hoff' : off = m.s + o := by rcases hoff with h | h <;> omega
        refine ⟨m, M - q.1, off + q.1 * e', hb, hez, by rw [if_neg (by omega)]; simp [Addr.add_lit], by omega, ?_, .inr (by rw [hoff']; omega), ?_⟩
        · split
          · rename_i ht
            simp only [Bool.and_eq_true, Option.isNone_iff_eq_none] at ht
            have hf : mx'.isSome = false := by simp [ht.2]
            have := h4 hf
            rw [hf] at hM
            simp at hM
            omega
          · rename_i ht
            cases hmx' : mx'.isSome with
            | true => rw [hmx'] at hM; simp at hM; omega
            | false =>
              rw [hmx'] at hM
              simp at hM
              have h5 := h4 hmx'
              have : tail = false := by
                cases tail
                · rfl
                · simp at ht; simp [ht] at hmx'
              subst this
              simp at htail
              omega
        · rw [hez] at hfit ⊢
          have : q.1 * e' + (M - q.1) * e' = M * e' := by rw [← Nat.add_mul]; congr 1; omega
          have h6 : M * e' ≤ cap' * e' := Nat.mul_le_mul_right _ hMc
          omega
    · cases h
  · cases h
end
end Go.Cs

/- Appending that makes a new block, and all steady operations together. -/
namespace Go.Cs
open Go Go.RowKit

theorem nextslicecap_le {need old : Nat} (h : old < need) : Builtin.nextslicecap need old ≤ 2 * need + 1024 := by
  unfold Builtin.nextslicecap
  split
  · omega
  · split
    · omega
    · rw [growBy_four]
      repeat' split
      all_goals omega

theorem run_value {P : Program} {w w' : World} {s : Sem Value} {v : Value} (h : s.run P w = .ok v w') : (do pure (.value (← s)) : Sem Next).run P w = .ok (.value v) w' := by simp [h]

section
variable {P : Program} {ν : Mu} {E : Env} {a : Act} {w : World} {H : CHeap} {K : Nat → Option Obj} {B : World}

/-- What 'append' of the compiler asks of the types. -/
structure AppT (P : Program) (t u : TypeId) (n : Nat) (e : TypeId) (i : TypeInfo) (z : Value) : Prop where
  ht : P.underlying t = some (.slice e)
  hu : ∃ e', P.underlying u = some (.slice e')
  hi : P.info? e = some i
  hz : i.zero = some z
  hn : i.size = n
  hzl : z.cells.size = n
  hb : i.bytes ≤ 4096
  hpos : 0 < n

theorem append_grow {t u ty e : TypeId} {n : Nat} {i : TypeInfo} {z : Value} (hT : AppT P t u n e i z) {base : Option Addr} {sLen sCap : Nat} {x : Value} {k : Nat} {old new : Array Value} (hx : (Builtin.lenOf x).run P w = .ok k w)
    (hgrow : sCap < sLen + k) (hmax : sLen + k ≤ maxEls) (hold : ∀ w', w'.heap = w.heap → (Builtin.firstCells n sLen (.slice base sLen sCap)).run P w' = .ok old w')
    (hnew : ∀ w', w'.heap = w.heap → (Builtin.firstCells n k x).run P w' = .ok new w') (hos : old.size = sLen * n) (hns : new.size = k * n) :
    ∃ cap' rest, (Builtin.append_ #[t, u] ty #[.slice base sLen sCap, x]).run P w = .ok (.slice (some ⟨w.heap.size, 0, none⟩) (sLen + k) cap') (w.drew.alloc (.cells (old ++ new ++ rest) e)) ∧
      sLen + k ≤ cap' ∧ (old ++ new ++ rest).size = cap' * n := by
  obtain ⟨e', hu⟩ := hT.hu
  have hd : ∀ w', w'.heap = w.heap → (Builtin.firstCells n sLen (.slice base sLen sCap)).run P w' = .ok old w' := hold
  have h1 := hold w.drew rfl
  have h2 := hnew w.drew rfl
  have hcap := nextslicecap_le hgrow
  have hbig : ¬ (Builtin.nextslicecap (sLen + k) sCap * i.bytes > 2 ^ 48) := by
    have : Builtin.nextslicecap (sLen + k) sCap * i.bytes ≤ (2 * (sLen + k) + 1024) * 4096 := Nat.mul_le_mul hcap hT.hb
    simp only [maxEls] at hmax
    omega
  have hmx : ¬ ((IntKind.i64.max : Int) < (sLen : Int) + (k : Int)) := by
    have : IntKind.i64.max = 9223372036854775807 := by decide
    simp only [maxEls] at hmax
    omega
  refine ⟨sLen + k + w.tape w.drawn (.appendCap (sLen + k) sCap e) % (2 ^ 63 - (sLen + k)), Builtin.zeroCells z.cells (sLen + k + w.tape w.drawn (.appendCap (sLen + k) sCap e) % (2 ^ 63 - (sLen + k)) - (sLen + k)), ?_, by omega, ?_⟩
  · have hng : ¬ (sLen + k ≤ sCap) := by omega
    simp [Builtin.append_, run_underlying hT.ht, run_underlying hu, sizeOf, typeInfo, hT.hi, hx, hng, hmx, hT.hn, Question.forced, Question.cut, h1, h2, zeroValue, hT.hz, hbig]
    rw [if_neg (by simp only [maxEls] at hmax; omega)]
    simp [newRow]
    rfl
  · simp only [Array.size_append, hos, hns, size_zeroCells, hT.hzl, ← Nat.add_mul]
    congr 1
    omega

theorem lenOf_run {c : CV} {v : Value} (h : V ν c v) {esz : Nat} {q : Nat × List CV} (he : elems H esz c = some q) : (Builtin.lenOf v).run P w = .ok q.1 w := by
  unfold elems at he
  split at he
  · simp only [Option.some.injEq] at he; subst he
    simp only [V] at h; subst h; simp [Builtin.lenOf]
  · simp only [V] at h
    obtain ⟨m, c', off, hb, _, rfl, _⟩ := h
    split at he
    · rename_i h0; simp only [Option.some.injEq] at he; subst he; subst h0; simp [Builtin.lenOf]
    · rw [Option.map_eq_some_iff] at he
      obtain ⟨cs, _, rfl⟩ := he
      simp [Builtin.lenOf]
  · cases he

/-- The elements of a slice, as the model reads them. -/
theorem elems_run (hS : Sim K B ν H w) {c : CV} {v : Value} (h : V ν c v) {esz : Nat} {q : Nat × List CV} (he : elems H esz c = some q) :
    ∃ new : Array Value, VL ν q.2 new.toList ∧ new.size = q.1 * esz ∧ ∀ w', w'.heap = w.heap → (Builtin.firstCells esz q.1 v).run P w' = .ok new w' := by
  unfold elems at he
  split at he
  · simp only [Option.some.injEq] at he; subst he
    simp only [V] at h; subst h
    exact ⟨#[], by simp [VL], by simp, fun w' _ => run_firstCells_none w' _ _ _ _⟩
  · simp only [V] at h
    obtain ⟨m, c', off, hb, _, rfl, hl, _, ho, _⟩ := h
    split at he
    · rename_i h0; simp only [Option.some.injEq] at he; subst he; subst h0
      refine ⟨#[], by simp [VL], by simp, fun w' _ => ?_⟩
      exact run_firstCells_some w' esz 0 _ _ _ [] (by simp) (by simp)
    · rename_i h0
      rw [Option.map_eq_some_iff] at he
      obtain ⟨cs, hcs, rfl⟩ := he
      obtain ⟨hlen, vs, hvs, hcell⟩ := hS.loadN hcs hb
      have hoff := ho.resolve_left (by omega)
      refine ⟨vs.toArray, by simpa using hvs, by simp [hvs.length, hlen], fun w' hw' => ?_⟩
      refine run_firstCells_some w' esz _ _ _ _ vs (by rw [hvs.length, hlen]) fun j u hu => ?_
      rw [Addr.add_lit, hoff]
      have := hcell j u hu
      simp only [World.cell?] at this ⊢
      rw [hw']
      exact this
  · cases he

theorem appendMk_run (hS : Sim K B ν H w) {t u ty e : TypeId} {n : Nat} {i : TypeInfo} {z : Value} (hT : AppT P t u n e i z) {s x : CV} {sv xv : Value} (hs : V ν s sv) (hx : V ν x xv) {q : Nat × List CV} (he : elems H n x = some q)
    {m : Option Blk × (Nat → CV)} (h : appendMk H n s q.1 q.2 = some m) : MkR P (do pure (.value (← Builtin.append_ #[t, u] ty #[sv, xv]))) w m ν := by
  have hlen := lenOf_run (P := P) (w := w) hx he
  obtain ⟨new, hnv, hns, hnew⟩ := elems_run (P := P) hS hx he
  obtain ⟨e', hu⟩ := hT.hu
  have stay : ∀ (base : Option Addr) (l c : Nat), q.1 = 0 → sv = .slice base l c → l ≤ c → (Builtin.append_ #[t, u] ty #[sv, xv]).run P w = .ok sv w := by
    intro base l c h0 hsv hlc
    have hn0 := hnew w rfl
    rw [h0] at hn0
    have hnz : new = #[] := by rw [h0] at hns; simp at hns; exact hns
    rw [hnz] at hn0
    cases base <;> simp [Builtin.append_, run_underlying hT.ht, run_underlying hu, sizeOf, typeInfo, hT.hi, hlen, h0, hsv, hlc, hT.hn, hn0, storeCells]
  unfold appendMk at h
  split at h
  · simp only [V] at hs
    split at h
    · rename_i h0
      simp only [Option.some.injEq] at h; subst h
      refine MkR.stay (v' := sv) ?_ (fun _ => by simp only [V]; exact hs)
      simp [stay none 0 0 h0 hs (Nat.le_refl 0)]
    · rename_i h0
      split at h
      · rename_i hmax
        simp only [Option.some.injEq] at h; subst h
        subst hs
        obtain ⟨cap', rest, hr, hge, hsz⟩ := append_grow (P := P) (w := w) (ty := ty) (base := none) (sLen := 0) (sCap := 0) (old := #[]) hT hlen (by omega) (by omega) (fun w' _ => run_firstCells_none w' _ _ _ _) hnew (by simp) hns
        refine ⟨_, _, run_value hr, ⟨rfl, rfl, rfl⟩, rfl, _, e, rfl, ?_, fun j c hj => ?_, fun ρ k hρ hk => ?_⟩
        · dsimp only
          rw [hsz]
          have := hnv.length
          simp at this
          rw [← this, hns]
          exact Nat.mul_le_mul_right _ (by omega)
        · obtain ⟨v, hv, hV⟩ := hnv.get hj
          refine ⟨v, ?_, hV⟩
          have hjl : j < new.size := by have := (List.getElem?_eq_some_iff.1 hv).1; simpa using this
          simp only [Array.empty_append]
          rw [Array.getElem?_append_left hjl]
          simpa using hv
        · simp only [V]
          refine ⟨_, cap', 0, hk, rfl, by simp, by omega, by simp; omega, .inr (by simp), ?_⟩
          dsimp only
          rw [hsz]
          omega
      · cases h
  · rename_i b o len cap ez tail
    simp only [V] at hs
    obtain ⟨mm, cap', off, hb, hez, hsv, hl, htail, hoff, hfit⟩ := hs
    split at h
    · rename_i h0
      simp only [Option.some.injEq] at h; subst h
      refine MkR.stay (v' := sv) ?_ (fun _ => by simp only [V]; exact ⟨mm, cap', off, hb, hez, hsv, hl, htail, hoff, hfit⟩)
      simp [stay _ _ _ h0 hsv hl]
    · rename_i h0
      split at h
      · rename_i hc
        obtain ⟨rfl, hcl, hmax⟩ := hc
        simp only [Bool.false_eq_true, if_false] at htail
        subst htail
        rw [Option.map_eq_some_iff] at h
        obtain ⟨oldc, hold, rfl⟩ := h
        have : ∃ old : Array Value, VL ν oldc old.toList ∧ old.size = len * n ∧ ∀ w', w'.heap = w.heap → (Builtin.firstCells n len sv).run P w' = .ok old w' := by
          have he' : elems H n (.slice b o len cap' ez false) = some (len, oldc) := by
            unfold elems
            dsimp only
            split at hold
            · rename_i h00
              simp only [Option.some.injEq] at hold; subst hold; subst h00
              rfl
            · rename_i h00
              rw [if_neg h00, hold]; rfl
          exact elems_run (P := P) hS (by simp only [V]; exact ⟨mm, cap', off, hb, hez, hsv, hl, by simp, hoff, hfit⟩) he'
        obtain ⟨old, hov, hos, holdr⟩ := this
        rw [hsv] at holdr ⊢
        obtain ⟨cap2, rest, hr, hge, hsz⟩ := append_grow (P := P) (w := w) (ty := ty) hT hlen hcl hmax holdr hnew hos hns
        refine ⟨_, _, run_value hr, ⟨rfl, rfl, rfl⟩, rfl, _, e, rfl, ?_, fun j c hj => ?_, fun ρ k hρ hk => ?_⟩
        · dsimp only
          rw [hsz, List.length_append, ← hov.length, ← hnv.length]
          simp only [Array.length_toList, hos, hns, ← Nat.add_mul]
          exact Nat.mul_le_mul_right _ hge
        · obtain ⟨v, hv, hV⟩ := (hov.append hnv).get hj
          refine ⟨v, ?_, hV⟩
          have hjl : j < (old ++ new).size := by have := (List.getElem?_eq_some_iff.1 hv).1; simpa using this
          rw [Array.getElem?_append_left hjl, ← Array.getElem?_toList, Array.toList_append]
          exact hv
        · simp only [V]
          refine ⟨_, cap2, 0, hk, rfl, by simp, hge, by simp; exact hge, .inr (by simp), ?_⟩
          dsimp only
          rw [hsz]
          omega
      · cases h
  · cases h
end
end Go.Cs

/- All steady operations together. -/
namespace Go.Cs
open Go Go.RowKit

section
variable {P : Program} {ν : Mu} {E : Env} {a : Act} {w : World} {H : CHeap} {K : Nat → Option Obj} {B : World}

theorem execOp_value {o : Oper} {s : Sem Value} (h : execOp a.eval o = (do pure (.value (← s)))) {v : Value} {w' : World} (hr : s.run P w = .ok v w') : (execOp a.eval o).run P w = .ok (.value v) w' := by
  rw [h]; exact run_value hr

theorem VL_replicate {zs : List CV} {vs : List Value} (h : VL ν zs vs) (k : Nat) : VL ν (List.replicate k zs).flatten (List.replicate k vs).flatten := by
  induction k with
  | zero => simp [VL]
  | succ k ih => simp only [List.replicate_succ, List.flatten_cons]; exact h.append ih

theorem range_mod (z : Array Value) (k : Nat) : ((Array.range (k * z.size)).map (z[· % z.size]!)).toList = (List.replicate k z.toList).flatten := by
  induction k with
  | zero => simp
  | succ k ih =>
    rw [List.replicate_succ', List.flatten_append, ← ih]
    simp only [Array.toList_map, Array.toList_range, List.flatten_cons, List.flatten_nil, List.append_nil]
    rw [Nat.succ_mul, List.range_add, List.map_append, List.map_map]
    congr 1
    apply List.ext_getElem?
    intro i
    rw [List.getElem?_map]
    rcases Nat.lt_or_ge i z.size with hi | hi
    · rw [List.getElem?_range hi]
      simp only [Option.map_some, Function.comp, Nat.mul_add_mod_self_right, Nat.mod_eq_of_lt hi]
      rw [Array.getElem?_toList, Array.getElem?_eq_getElem hi, getElem!_pos z i hi]
    · rw [List.getElem?_eq_none (by simpa using hi), List.getElem?_eq_none (by simpa using hi)]; rfl

theorem equalIn_nil_ptr (d : Nat) {t e : TypeId} (p : Option Addr) (h : P.underlying t = some (.pointer e)) : (Op.equalIn (d + 1) t (.pointer none) (.pointer p)).run P w = .ok p.isNone w := by
  simp [Op.equalIn, run_underlying h]
theorem equalIn_ptr_nil (d : Nat) {t e : TypeId} (p : Addr) (h : P.underlying t = some (.pointer e)) : (Op.equalIn (d + 1) t (.pointer (some p)) (.pointer none)).run P w = .ok false w := by
  simp [Op.equalIn, run_underlying h]
theorem equalIn_nil_slice (d : Nat) {t e : TypeId} (p : Option Addr) (l c : Nat) (h : P.underlying t = some (.slice e)) : (Op.equalIn (d + 1) t (.slice none 0 0) (.slice p l c)).run P w = .ok p.isNone w := by
  simp [Op.equalIn, run_underlying h]
theorem equalIn_slice_nil (d : Nat) {t e : TypeId} (p : Addr) (l c : Nat) (h : P.underlying t = some (.slice e)) : (Op.equalIn (d + 1) t (.slice (some p) l c) (.slice none 0 0)).run P w = .ok false w := by
  simp [Op.equalIn, run_underlying h]

theorem eql_neq_of {t : TypeId} {x y : Operand} {vx vy : Value} {r : Bool} (h1 : eqGuard .eql t x y vx vy = pure ()) (h2 : eqGuard .neq t x y vx vy = pure ())
    (h3 : binOp .eql t vx vy = (do pure (.bool (← Op.equal t vx vy)))) (h4 : binOp .neq t vx vy = (do pure (.bool (!(← Op.equal t vx vy))))) (h : (Op.equalIn 10000 t vx vy).run P w = .ok r w) :
    (do eqGuard .eql t x y vx vy; binOp .eql t vx vy : Sem Value).run P w = .ok (.bool r) w ∧ (do eqGuard .neq t x y vx vy; binOp .neq t vx vy : Sem Value).run P w = .ok (.bool (!r)) w := by
  rw [h1, h2, h3, h4]
  simp [Op.equal, Op.maxDepth, h]

theorem eqv_run {t : TypeId} {x y : Operand} {c d : CV} {vx vy : Value} {r : Bool} {ty : Nat} (hx : V ν c vx) (hy : V ν d vy) (he : eqVal ty c d = some r)
    (ht : (ty = 0 → P.underlying t = some .bool) ∧ (ty = 1 → ∃ e, P.underlying t = some (.pointer e)) ∧ (ty = 2 → ∃ e, P.underlying t = some (.slice e))) :
    (do eqGuard .eql t x y vx vy; binOp .eql t vx vy : Sem Value).run P w = .ok (.bool r) w ∧ (do eqGuard .neq t x y vx vy; binOp .neq t vx vy : Sem Value).run P w = .ok (.bool (!r)) w := by
  unfold eqVal at he
  split at he
  · simp only [Option.some.injEq] at he; subst he
    simp only [V] at hx hy; subst hx; subst hy
    exact eql_neq_of (eqGuard_at_bool ..) (eqGuard_at_bool ..) rfl rfl (run_equalIn_bool w 9999 t _ _ (ht.1 rfl))
  · obtain ⟨e, hu⟩ := ht.2.1 rfl
    simp only [Option.some.injEq] at he; subst he
    simp only [V] at hx hy; subst hx; subst hy
    exact eql_neq_of (eqGuard_at_pointer ..) (eqGuard_at_pointer ..) rfl rfl (equalIn_nil_ptr 9999 none hu)
  · obtain ⟨e, hu⟩ := ht.2.1 rfl
    simp only [Option.some.injEq] at he; subst he
    simp only [V] at hx hy; subst hx; obtain ⟨m, _, rfl⟩ := hy
    exact eql_neq_of (eqGuard_at_pointer ..) (eqGuard_at_pointer ..) rfl rfl (equalIn_nil_ptr 9999 (some _) hu)
  · obtain ⟨e, hu⟩ := ht.2.1 rfl
    simp only [Option.some.injEq] at he; subst he
    simp only [V] at hx hy; subst hy; obtain ⟨m, _, rfl⟩ := hx
    exact eql_neq_of (eqGuard_at_pointer ..) (eqGuard_at_pointer ..) rfl rfl (equalIn_ptr_nil 9999 _ hu)
  · obtain ⟨e, hu⟩ := ht.2.2 rfl
    simp only [Option.some.injEq] at he; subst he
    simp only [V] at hx hy; subst hx; subst hy
    exact eql_neq_of (eqGuard_at_slice ..) (eqGuard_at_slice ..) rfl rfl (equalIn_nil_slice 9999 none 0 0 hu)
  · obtain ⟨e, hu⟩ := ht.2.2 rfl
    simp only [Option.some.injEq] at he; subst he
    simp only [V] at hx hy; subst hx; obtain ⟨m, c', off, _, _, rfl, _⟩ := hy
    exact eql_neq_of (eqGuard_at_slice ..) (eqGuard_at_slice ..) rfl rfl (equalIn_nil_slice 9999 (some _) _ _ hu)
  · obtain ⟨e, hu⟩ := ht.2.2 rfl
    simp only [Option.some.injEq] at he; subst he
    simp only [V] at hx hy; subst hy; obtain ⟨m, c', off, _, _, rfl, _⟩ := hx
    exact eql_neq_of (eqGuard_at_slice ..) (eqGuard_at_slice ..) rfl rfl (equalIn_slice_nil 9999 _ _ _ hu)
  · cases he

theorem places_run : ∀ (l : List Field) (pl : List (Nat × Nat)), allSome (l.map fun f => (sizeT P f.type).map fun n => (f.offset, n)) = some pl →
    (l.mapM fun f => Prod.mk f.offset <$> sizeOf f.type : Sem (List (Nat × Nat))).run P w = .ok pl w
  | [], pl, h => by simp only [List.map_nil, allSome, Option.some.injEq] at h; subst h; simp
  | f :: l, pl, h => by
    simp only [List.map_cons] at h
    cases hn : sizeT P f.type with
    | none => rw [hn] at h; cases h
    | some n =>
      rw [hn] at h
      simp only [Option.map_some, allSome, Option.map_eq_some_iff] at h
      obtain ⟨q, hq, rfl⟩ := h
      have ih := places_run l q hq
      rw [List.mapM_cons]
      simp [sizeT_run hn, ih]

theorem fill_length : ∀ {qs : List (Nat × Nat × CV)} {cs zs : List CV}, fill cs qs = some zs → zs.length = cs.length
  | [], cs, zs, h => by simp only [fill, Option.some.injEq] at h; subst h; rfl
  | q :: qs, cs, zs, h => by
    obtain ⟨off, size, c⟩ := q
    simp only [fill] at h
    split at h
    · rename_i hc
      rw [fill_length h, splice_length (by omega)]
    · cases h

theorem eqv_all {dst : Option Tmp} {type : TypeId} {pos : String} {after : Array Edge} {guard : Option (Nat × Bool)} {op : BinOp} {t yt : TypeId} {x y : Operand} {x' y' : Opd} {ty : Nat} {op' : COp} {m : Option Blk × (Nat → CV)}
    (hx : opd x = some x') (hy : opd y = some y') (hE : ∀ t ∈ op'.tmps, V ν (E t) (a.tmps.getD t undef)) (hm : mkOf op' E H = some m)
    (hc : (match op with | .eql => some (COp.eqv false ty x' y') | .neq => some (.eqv true ty x' y') | _ => none) = some op')
    (ht : (ty = 0 → P.underlying t = some .bool) ∧ (ty = 1 → ∃ e, P.underlying t = some (.pointer e)) ∧ (ty = 2 → ∃ e, P.underlying t = some (.slice e))) :
    MkR P (execOp a.eval ⟨dst, .binOp op t x y yt, type, pos, after, guard⟩) w m ν := by
  have : ∃ neg, op' = .eqv neg ty x' y' ∧ (if neg then op = .neq else op = .eql) := by
    cases op <;> simp at hc
    · exact ⟨false, hc.symm, by simp⟩
    · exact ⟨true, hc.symm, by simp⟩
  obtain ⟨neg, rfl, hneg⟩ := this
  have h1 := opd_V hx (fun t ht => hE t (by simp [COp.tmps, ht]))
  have h2 := opd_V hy (fun t ht => hE t (by simp [COp.tmps, ht]))
  simp only [mkOf, Option.map_eq_some_iff] at hm
  obtain ⟨v, hv, rfl⟩ := hm
  obtain ⟨g1, g2⟩ := eqv_run (P := P) (w := w) (x := x) (y := y) h1 h2 hv ht
  cases neg with
  | true =>
    simp only [if_true] at hneg
    subst hneg
    exact MkR.stay (v' := .bool (!v)) (execOp_value rfl g2) fun _ => by simp [V]
  | false =>
    simp only [Bool.false_eq_true, if_false] at hneg
    subst hneg
    exact MkR.stay (v' := .bool v) (execOp_value rfl g1) fun _ => by simp [V]

/-- Every operation of the model that the clean machine has as a steady one. -/
theorem mk_sim (hS : Sim K B ν H w) {o : Oper} {op' : COp} (hc : compOp P o.op = some op') (hE : ∀ t ∈ op'.tmps, V ν (E t) (a.tmps.getD t undef)) {m : Option Blk × (Nat → CV)} (hm : mkOf op' E H = some m) :
    MkR P (execOp a.eval o) w m ν := by
  obtain ⟨dst, oop, type, pos, after, guard⟩ := o
  dsimp only at hc
  cases oop with
  | move x | assign x =>
    simp only [compOp, Option.map_eq_some_iff] at hc
    obtain ⟨y, hy, rfl⟩ := hc
    simp only [mkOf, Option.some.injEq] at hm
    subst hm
    exact MkR.stay (v' := a.eval x) (by simp [execOp]) fun _ => opd_V hy hE
  | pick c p q =>
    simp only [compOp, Option.bind_eq_some_iff, Option.map_eq_some_iff] at hc
    obtain ⟨c', hc', p', hp, q', hq, rfl⟩ := hc
    have h1 := opd_V hc' (fun t ht => hE t (by simp [COp.tmps, ht]))
    have h2 := opd_V hp (fun t ht => hE t (by simp [COp.tmps, ht]))
    have h3 := opd_V hq (fun t ht => hE t (by simp [COp.tmps, ht]))
    simp only [mkOf] at hm
    split at hm
    · rename_i t ht
      simp only [Option.some.injEq] at hm
      subst hm
      rw [ht] at h1
      simp only [V] at h1
      refine MkR.stay (v' := if t then a.eval p else a.eval q) (by simp [execOp, h1, asBool]) fun _ => ?_
      cases t
      · exact h3
      · exact h2
    · cases hm
  | alloc t =>
    simp only [compOp, Option.map_eq_some_iff] at hc
    obtain ⟨z, hz, rfl⟩ := hc
    obtain ⟨i, v, hi, hv, hV⟩ := zeroOf_V ν hz
    simp only [mkOf, Option.some.injEq] at hm
    subst hm
    refine MkR.made (v' := .pointer (some ⟨w.heap.size, 0, none⟩)) (arr := v.cells) (T := t) ?_ hV fun ρ k _ hk => ?_
    · simp [execOp, Instr.alloc, zeroValue_run hi hv, newVar, newRow]
    · simp only [V]; exact ⟨_, hk, rfl⟩
  | box t x =>
    simp only [compOp, Option.map_eq_some_iff] at hc
    obtain ⟨y, hy, rfl⟩ := hc
    have h1 := opd_V hy hE
    simp only [mkOf, Option.some.injEq] at hm
    subst hm
    refine MkR.made (v' := .pointer (some ⟨w.heap.size, 0, none⟩)) (arr := (a.eval x).cells) (T := t) ?_ h1.cells fun ρ k _ hk => ?_
    · simp [execOp, Instr.box, newVar, newRow]
    · simp only [V]; exact ⟨_, hk, rfl⟩
  | build t parts =>
    simp only [compOp] at hc
    split at hc
    · rename_i fs hu
      simp only [Option.bind_eq_some_iff, Option.map_eq_some_iff] at hc
      obtain ⟨z, hz, pl, hpl, ps, hps, rfl⟩ := hc
      obtain ⟨i, v, hi, hv, hV⟩ := zeroOf_V ν hz
      simp only [mkOf, Option.map_eq_some_iff] at hm
      obtain ⟨cs, hcs, rfl⟩ := hm
      obtain ⟨out, hout, hVo⟩ := compParts_V hps (fun t ht => hE t (by simpa [COp.tmps] using ht)) hV hcs
      refine MkR.stay (v' := .agg out) ?_ fun _ => by simp only [V]; exact ⟨_, rfl, hVo⟩
      have hout' := hout
      simp only [Array.toList_map] at hout'
      simp [execOp, Instr.build, zeroValue_run hi hv, run_underlying hu, Array.mapM_eq_mapM_toList, places_run _ _ hpl, hout']
    · cases hc
  | buildSlice t len parts =>
    simp only [compOp, Option.bind_eq_some_iff] at hc
    obtain ⟨e, he, n, hn, z, hz, ps, hps, hg⟩ := hc
    obtain ⟨hgd, hop⟩ := guardB_some hg
    simp only [Option.some.injEq] at hop
    subst hop
    simp only [Bool.and_eq_true, decide_eq_true_eq] at hgd
    obtain ⟨⟨hn0, hzl⟩, hlim⟩ := hgd
    obtain ⟨i, v, hi, hv, hV⟩ := zeroOf_V ν hz
    have hvs : v.cells.size = n := by have := hV.length; simp at this; omega
    simp only [mkOf, Option.map_eq_some_iff] at hm
    obtain ⟨cs, hcs, rfl⟩ := hm
    have hz0 := VL_replicate hV len
    have hzr : ((Array.range (len * n)).map (v.cells[· % v.cells.size]!)).toList = (List.replicate len v.cells.toList).flatten := by rw [← hvs]; exact range_mod _ _
    rw [← hzr] at hz0
    obtain ⟨out, hout, hVo⟩ := compParts_V hps (fun t ht => hE t (by simpa [COp.tmps] using ht)) hz0 hcs
    have hos : out.size = len * n := by
      have h1 := hVo.length
      have h2 := fill_length hcs
      rw [← Array.length_toList, h1, h2, List.length_flatten]
      simp [hzl]
    refine MkR.made (v' := .slice (some ⟨w.heap.size, 0, none⟩) len len) (arr := out) (T := e) ?_ hVo fun ρ k _ hk => ?_
    · have hlt : ¬ (len * n > 2 ^ 24) := by omega
      refine execOp_value (s := Instr.buildSlice t len (parts.map fun x => (x.1, a.eval x.2))) rfl ?_
      simp only [Instr.buildSlice, Sem.run_bind, run_underlying (sliceElem_und he), Result.andThen_ok, sizeT_run hn, if_neg hlt, Sem.run_pure]
      rcases Nat.eq_zero_or_pos len with h0 | h0
      · subst h0
        simp only [Nat.zero_mul, Array.range_zero', Array.map_empty] at hout
        simp only [Nat.zero_mul, if_true, Sem.run_pure, Result.andThen_ok, Array.range_zero', Array.map_empty, hout]
        simp [newRow]
      · have hne : ¬ (len * n = 0) := by have := Nat.mul_pos h0 hn0; omega
        simp only [if_neg hne, Sem.run_bind, zeroValue_run hi hv, Result.andThen_ok, Sem.run_pure, hout]
        simp [newRow]
    · simp only [V]
      refine ⟨_, len, 0, hk, rfl, rfl, Nat.le_refl _, by simp, .inr (by simp), ?_⟩
      dsimp only
      omega
  | load t x =>
    simp only [compOp, Option.bind_eq_some_iff, Option.map_eq_some_iff] at hc
    obtain ⟨g, hg, n, hn, y, hy, rfl⟩ := hc
    have h1 := opd_V hy hE
    simp only [mkOf] at hm
    split at hm
    · rename_i b o hb
      rw [hb] at h1
      simp only [V] at h1
      obtain ⟨mm, hmm, he⟩ := h1
      have key : ∃ v, (if g = true then (loadN H b o n).map .agg else load1 H b o) = some v ∧ m = (none, fun _ => v) := by
        split at hm
        · rename_i hgt
          rw [Option.map_eq_some_iff] at hm
          obtain ⟨cs, hcs, rfl⟩ := hm
          exact ⟨.agg cs, by rw [if_pos hgt, hcs]; rfl, rfl⟩
        · rename_i hgt
          rw [Option.map_eq_some_iff] at hm
          obtain ⟨v, hv, rfl⟩ := hm
          exact ⟨v, by rw [if_neg hgt, hv], rfl⟩
      obtain ⟨v, hv, rfl⟩ := key
      obtain ⟨v', hr, hV⟩ := load_run (P := P) hS hg hn hv hmm
      exact MkR.stay (v' := v') (by simp [execOp, Instr.loadAt, he, Instr.sureAddr, hr]) fun _ => hV
    · cases hm
  | nilCheck x =>
    simp only [compOp, Option.map_eq_some_iff] at hc
    obtain ⟨y, hy, rfl⟩ := hc
    have h1 := opd_V hy hE
    simp only [mkOf] at hm
    split at hm
    · rename_i b o hb
      simp only [Option.some.injEq] at hm
      subst hm
      rw [hb] at h1
      have h2 := h1
      simp only [V] at h2
      obtain ⟨mm, hmm, he⟩ := h2
      exact MkR.stay (v' := a.eval x) (by simp [execOp, he]) fun _ => h1
    · cases hm
  | binOp op t x y yt =>
    simp only [compOp, Option.bind_eq_some_iff] at hc
    obtain ⟨x', hx, y', hy, hc⟩ := hc
    split at hc
    · have hop : op' = .bin op x' y' := by cases op <;> simp at hc <;> exact hc.symm
      subst hop
      have h1 := opd_V hx (fun t ht => hE t (by simp [COp.tmps, ht]))
      have h2 := opd_V hy (fun t ht => hE t (by simp [COp.tmps, ht]))
      simp only [mkOf] at hm
      split at hm
      · rename_i k p k' q e1 e2
        split at hm
        · rename_i hk
          subst hk
          rw [Option.map_eq_some_iff] at hm
          obtain ⟨v, hv, rfl⟩ := hm
          rw [e1] at h1
          rw [e2] at h2
          simp only [V] at h1 h2
          obtain ⟨v', hr, hV⟩ := sim_bin (P := P) (w := w) (ν := ν) (t := t) h1 h2 hv
          exact MkR.stay (v' := v') (execOp_value rfl hr) fun _ => hV
        · cases hm
      · cases hm
    · rename_i hu
      exact eqv_all hx hy hE hm hc ⟨fun _ => hu, by simp, by simp⟩
    · rename_i e hu
      exact eqv_all hx hy hE hm hc ⟨by simp, fun _ => ⟨e, hu⟩, by simp⟩
    · rename_i e hu
      exact eqv_all hx hy hE hm hc ⟨by simp, by simp, fun _ => ⟨e, hu⟩⟩
    · rename_i fs hu
      obtain ⟨hgd, hop⟩ := guardB_some hc
      have : ∃ neg, op' = .eqs neg fs.size x' y' ∧ (if neg then op = .neq else op = .eql) := by
        cases op <;> simp at hop
        · exact ⟨false, hop.symm, by simp⟩
        · exact ⟨true, hop.symm, by simp⟩
      obtain ⟨neg, rfl, hneg⟩ := this
      have h1 := opd_V hx (fun t ht => hE t (by simp [COp.tmps, ht]))
      have h2 := opd_V hy (fun t ht => hE t (by simp [COp.tmps, ht]))
      simp only [mkOf] at hm
      split at hm
      · rename_i xs ys e1 e2
        split at hm
        · rename_i hl
          rw [Option.map_eq_some_iff] at hm
          obtain ⟨v, hv, rfl⟩ := hm
          rw [e1] at h1
          rw [e2] at h2
          obtain ⟨g1, g2, g3, g4⟩ := sim_eqv_flat (P := P) (w := w) (x := x) (y := y) hgd h1 h2 hv ⟨fs, hu, hl⟩
          cases neg with
          | true =>
            simp only [if_true] at hneg
            subst hneg
            exact MkR.stay (v' := .bool (!v)) (execOp_value rfl (by simp [g2, g4])) fun _ => by simp [V]
          | false =>
            simp only [Bool.false_eq_true, if_false] at hneg
            subst hneg
            exact MkR.stay (v' := .bool v) (execOp_value rfl (by simp [g1, g3])) fun _ => by simp [V]
        · cases hm
      · cases hm
    · cases hc
  | unOp op t x =>
    cases op with
    | not =>
      simp only [compOp, Option.map_eq_some_iff] at hc
      obtain ⟨y, hy, rfl⟩ := hc
      have h1 := opd_V hy hE
      simp only [mkOf] at hm
      split at hm
      · rename_i b hb
        simp only [Option.some.injEq] at hm
        subst hm
        rw [hb] at h1
        simp only [V] at h1
        exact MkR.stay (v' := .bool !b) (by simp [execOp, h1, Op.unary]) fun _ => by simp [V]
      · cases hm
    | _ => cases hc
  | makeFunc fn first caps =>
    cases fn with
    | func f =>
      simp only [compOp] at hc
      split at hc
      · rename_i hf
        rw [Option.map_eq_some_iff] at hc
        obtain ⟨l, hl, rfl⟩ := hc
        have h1 := opds_VL hl (fun t ht => hE t (by simpa [COp.tmps] using ht))
        simp only [mkOf, Option.some.injEq] at hm
        subst hm
        have hf' : first = #[] := by simpa using hf
        refine MkR.stay (v' := .func (.func f) #[] (caps.map a.eval)) (by simp [execOp, Instr.makeFunc, hf']) fun _ => ?_
        simp only [V]
        exact ⟨_, rfl, h1⟩
      · cases hc
    | _ => cases hc
  | makeSlice t l c =>
    simp only [compOp, Option.bind_eq_some_iff] at hc
    obtain ⟨e, he, n, hn, b, hb, z, hz, l', hl, c', hcc, hg⟩ := hc
    obtain ⟨hgd, hop⟩ := guardB_some hg
    simp only [Option.some.injEq] at hop
    subst hop
    simp only [Bool.and_eq_true, decide_eq_true_eq] at hgd
    obtain ⟨⟨hn0, hzl⟩, hb4⟩ := hgd
    obtain ⟨i, v, hi, hv, hV⟩ := zeroOf_V ν hz
    have hvs : v.cells.size = n := by have := hV.length; simp at this; omega
    have hby : i.bytes = b := by simp only [bytesT, hi, Option.map_some, Option.some.injEq] at hb; exact hb
    have h1 := opd_V hl (fun t ht => hE t (by simp [COp.tmps, ht]))
    have h2 := opd_V hcc (fun t ht => hE t (by simp [COp.tmps, ht]))
    simp only [mkOf] at hm
    split at hm
    · rename_i l0 c0 e1 e2
      split at hm
      · rename_i hlc
        simp only [Option.some.injEq] at hm
        subst hm
        rw [e1] at h1
        rw [e2] at h2
        simp only [V] at h1 h2
        obtain ⟨cn, rfl⟩ := Int.eq_ofNat_of_zero_le (show 0 ≤ c0 by omega)
        obtain ⟨ln, rfl⟩ := Int.eq_ofNat_of_zero_le hlc.1
        simp only [maxEls] at hlc
        have w1 : IntKind.i64.wrap (ln : Int) = ln := wrap_small (by omega) (by omega)
        have w2 : IntKind.i64.wrap (cn : Int) = cn := wrap_small (by omega) (by omega)
        have hbig : ¬ ((2 : Int) ^ 48 < (b : Int) * (cn : Int)) := by
          have hle : b * cn ≤ 4096 * 16777216 := Nat.mul_le_mul hb4 (by omega)
          have hle' : ((b * cn : Nat) : Int) ≤ 68719476736 := by omega
          rw [Int.natCast_mul] at hle'
          omega
        have hz0 := VL_replicate hV cn
        rw [← range_mod, hvs] at hz0
        simp only [Int.toNat_natCast]
        refine MkR.made (v' := .slice (some ⟨w.heap.size, 0, none⟩) ln cn) (arr := (Array.range (cn * n)).map (v.cells[· % n]!)) (T := e) ?_ hz0 fun ρ k _ hk => ?_
        · refine execOp_value (s := Instr.makeSlice t (a.eval l) (a.eval c)) rfl ?_
          rw [h1, h2]
          have hcl : ¬ ((cn : Int) < 0) := by omega
          have hll : ¬ ((ln : Int) < 0) := by omega
          have hlc2 : ¬ ((cn : Int) < (ln : Int)) := by omega
          rcases Nat.eq_zero_or_pos cn with h0 | h0
          · subst h0
            have hl0 : ln = 0 := by omega
            subst hl0
            simp only [Instr.makeSlice, run_underlying (sliceElem_und he), asInt, asIntOf, typeInfo_run hi, hby, sizeT_run hn, Sem.run_bind, Result.andThen_ok, Sem.run_pure]
            simp [newRow, IntKind.wrap, IntKind.bits, sizeT_run hn, Array.range_zero']
          · have hne : ¬ (cn * n = 0) := by have := Nat.mul_pos h0 hn0; omega
            have hbig' : decide ((b : Int) * (cn : Int) > 2 ^ 48) = false := by simpa using hbig
            have hcl' : decide ((cn : Int) < 0) = false := by simp
            have hll' : decide ((ln : Int) < 0) = false := by simp
            have hlc' : decide ((ln : Int) > (cn : Int)) = false := by simpa using hlc2
            simp only [Instr.makeSlice, run_underlying (sliceElem_und he), asInt, asIntOf, typeInfo_run hi, hby, sizeT_run hn, Sem.run_bind, Result.andThen_ok, Sem.run_pure, w1, w2, hbig', hcl', hll', hlc', Bool.or_false, Bool.false_eq_true, if_false, Int.toNat_natCast, if_neg hne, zeroValue_run hi hv, run_askRoom, hvs]
            simp [newRow]
        · simp only [V]
          refine ⟨_, cn, 0, hk, rfl, rfl, by omega, by simp, .inr (by simp), ?_⟩
          simp
      · cases hm
    · cases hm
  | slice t x lo hi mx =>
    simp only [compOp, Option.bind_eq_some_iff, Option.map_eq_some_iff] at hc
    obtain ⟨e, he, n, hn, x', hx, lo', hlo, hi', hhi, mx', hmx, rfl⟩ := hc
    simp only [mkOf, Option.map_eq_some_iff] at hm
    obtain ⟨v, hv, rfl⟩ := hm
    obtain ⟨v', hr, hV⟩ := slice_run (P := P) (w := w) (sliceElem_und he) hn hx hlo hhi hmx hE hv
    exact MkR.stay (v' := v') (by simp [execOp, hr]) fun _ => hV
  | fieldAddr s x f =>
    simp only [compOp] at hc
    split at hc
    · rename_i fs hu
      simp only [Option.bind_eq_some_iff] at hc
      obtain ⟨fd, hfd, n, hn, x', hx, hg⟩ := hc
      obtain ⟨hgd, hop⟩ := guardB_some hg
      simp only [Option.some.injEq] at hop
      subst hop
      simp only [decide_eq_true_eq, ne_eq] at hgd
      have h1 := opd_V hx hE
      simp only [mkOf] at hm
      split at hm
      · rename_i b o hb
        simp only [Option.some.injEq] at hm
        subst hm
        rw [hb] at h1
        simp only [V] at h1
        obtain ⟨mm, hmm, he⟩ := h1
        refine MkR.stay (v' := .pointer (some ⟨mm.c, mm.s + (o + fd.offset), none⟩)) ?_ fun _ => by simp only [V]; exact ⟨mm, hmm, rfl⟩
        simp [execOp, Instr.fieldAt, run_underlying hu, hfd, he, Instr.sureAddr, fieldPlace, sizeT_run hn, hgd, Addr.add_lit, Nat.add_assoc]
      · cases hm
    · cases hc
  | indexAddr t x ix =>
    simp only [compOp, Option.bind_eq_some_iff, Option.map_eq_some_iff] at hc
    obtain ⟨e, he, n, hn, x', hx, i', hi, rfl⟩ := hc
    have h1 := opd_V hx (fun t ht => hE t (by simp [COp.tmps, ht]))
    have h2 := opd_V hi (fun t ht => hE t (by simp [COp.tmps, ht]))
    simp only [mkOf] at hm
    split at hm
    · rename_i b o len cap ez tl k i hb hik
      split at hm
      · rename_i hlt
        simp only [Option.some.injEq] at hm
        subst hm
        rw [hb] at h1
        rw [hik] at h2
        simp only [V] at h1 h2
        obtain ⟨mm, cap', off, hmm, hez, hxe, hlc, ht, hoff, hfit⟩ := h1
        have hoff' := hoff.resolve_left (by omega)
        refine MkR.stay (v' := .pointer (some ⟨mm.c, mm.s + (o + i.toNat * n), none⟩)) ?_ fun _ => by simp only [V]; exact ⟨mm, hmm, rfl⟩
        simp [execOp, Instr.indexAt, run_underlying (sliceElem_und he), h2, hxe, asIntOf, hlt, sizeT_run hn, Addr.add_lit, hoff', Nat.add_assoc]
      · cases hm
    · cases hm
  | extract x ix =>
    simp only [compOp, Option.map_eq_some_iff] at hc
    obtain ⟨y, hy, rfl⟩ := hc
    have h1 := opd_V hy hE
    simp only [mkOf] at hm
    split at hm
    · rename_i vs hvs
      rw [Option.map_eq_some_iff] at hm
      obtain ⟨v, hv, rfl⟩ := hm
      rw [hvs] at h1
      simp only [V] at h1
      obtain ⟨us, hus, hl⟩ := h1
      obtain ⟨u, hu, hV⟩ := hl.get hv
      have hu' : us[ix]? = some u := by simpa using hu
      exact MkR.stay (v' := u) (by simp [execOp, hus, Instr.extract, hu']) fun _ => hV
    · cases hm
  | call c =>
    obtain ⟨callee, args, argTypes⟩ := c
    simp only [compOp, compCall] at hc
    split at hc
    · simp only [Option.map_eq_some_iff] at hc
      obtain ⟨l, hl, rfl⟩ := hc
      cases hm
    · simp only [Option.map_eq_some_iff] at hc
      obtain ⟨l, hl, rfl⟩ := hc
      cases hm
    · split at hc
      · rename_i x t hxs ht
        simp only [Option.bind_eq_some_iff, Option.map_eq_some_iff] at hc
        obtain ⟨e, he, y, hy, rfl⟩ := hc
        have h1 := opd_V hy hE
        have ha : args = #[x] := by rw [← Array.toArray_toList (xs := args), hxs]
        subst ha
        simp only [mkOf] at hm
        split at hm
        · rename_i b o len cap ez tl hb
          simp only [Option.some.injEq] at hm
          subst hm
          rw [hb] at h1
          simp only [V] at h1
          obtain ⟨mm, cap', off, hmm, hez, hxe, _⟩ := h1
          refine MkR.stay (v' := .int .i64 len) ?_ fun _ => by simp [V]
          simp [execOp, resolve, invoke, builtin, Builtin.len_, ht, run_underlying (sliceElem_und he), hxe, goInt]
        · rename_i hb
          simp only [Option.some.injEq] at hm
          subst hm
          rw [hb] at h1
          simp only [V] at h1
          refine MkR.stay (v' := .int .i64 0) ?_ fun _ => by simp [V]
          simp [execOp, resolve, invoke, builtin, Builtin.len_, ht, run_underlying (sliceElem_und he), h1, goInt]
        · cases hm
      · cases hc
    · split at hc
      · rename_i s x t u hxs hts
        simp only [Option.bind_eq_some_iff] at hc
        obtain ⟨e, he, e', he', n, hn, b, hb, z, hz, s', hs, x', hx, hg⟩ := hc
        obtain ⟨hgd, hop⟩ := guardB_some hg
        simp only [Option.some.injEq] at hop
        subst hop
        simp only [Bool.and_eq_true, decide_eq_true_eq] at hgd
        obtain ⟨⟨⟨hn0, hb0⟩, hb4⟩, hzl⟩ := hgd
        obtain ⟨i, v, hi, hv, hV⟩ := zeroOf_V ν hz
        have ha : args = #[s, x] := by rw [← Array.toArray_toList (xs := args), hxs]
        have hat : argTypes = #[t, u] := by rw [← Array.toArray_toList (xs := argTypes), hts]
        subst ha; subst hat
        have h1 := opd_V hs (fun t ht => hE t (by simp [COp.tmps, ht]))
        have h2 := opd_V hx (fun t ht => hE t (by simp [COp.tmps, ht]))
        simp only [mkOf, Option.bind_eq_some_iff] at hm
        obtain ⟨q, hq, hm⟩ := hm
        have hT : AppT P t u n e i v := by
          refine ⟨sliceElem_und he, ⟨e', sliceElem_und he'⟩, hi, hv, ?_, ?_, ?_, hn0⟩
          · obtain ⟨i', hi', rfl⟩ := sizeT_info hn
            rw [hi] at hi'; simp only [Option.some.injEq] at hi'; subst hi'; rfl
          · have := hV.length; simp at this; omega
          · simp only [bytesT, hi, Option.map_some, Option.some.injEq] at hb; omega
        have := appendMk_run (P := P) (ty := type) hS hT h1 h2 hq hm
        simpa [execOp, resolve, invoke, builtin] using this
      · cases hc
    · split at hc
      · simp only [Option.bind_eq_some_iff, Option.map_eq_some_iff] at hc
        obtain ⟨_, _, _, _, _, _, _, _, _, _, rfl⟩ := hc
        cases hm
      · cases hc
    · split at hc
      · simp only [Option.bind_eq_some_iff, Option.map_eq_some_iff] at hc
        obtain ⟨_, _, _, _, _, _, rfl⟩ := hc
        cases hm
      · cases hc
    · cases hc
  | store t x v =>
    simp only [compOp, Option.bind_eq_some_iff, Option.map_eq_some_iff] at hc
    obtain ⟨_, _, _, _, _, _, rfl⟩ := hc
    cases hm
  | _ => simp only [compOp] at hc; cases hc
end
end Go.Cs

/- Operations that change memory, and calls. -/
namespace Go.Cs
open Go Go.RowKit

/-- The two machines' memories. Beyond the clean machine's heap, up to 'L', nothing is laid down yet. -/
structure St (K : Nat → Option Obj) (B : World) (L : Nat) (ν : Mu) (H : CHeap) (w : World) : Prop where
  sim : Sim K B ν H w
  dom : ∀ b, H.length ≤ b → b < L → ν b = none

structure Ext (L : Nat) (H : CHeap) (ν : Mu) (H' : CHeap) (ν' : Mu) : Prop where
  len : H.length ≤ H'.length
  same : ∀ b, b < H.length → ν' b = ν b
  far : ∀ b, L ≤ b → ν' b = ν b

theorem Ext.refl (L : Nat) (H : CHeap) (ν : Mu) : Ext L H ν H ν := ⟨Nat.le_refl _, fun _ _ => rfl, fun _ _ => rfl⟩
theorem Ext.trans {L : Nat} {H H1 H2 : CHeap} {ν ν1 ν2 : Mu} (h : Ext L H ν H1 ν1) (k : Ext L H1 ν1 H2 ν2) : Ext L H ν H2 ν2 :=
  ⟨Nat.le_trans h.len k.len, fun b hb => (k.same b (Nat.lt_of_lt_of_le hb h.len)).trans (h.same b hb), fun b hb => (k.far b hb).trans (h.far b hb)⟩
theorem Ext.mono {K : Nat → Option Obj} {B : World} {L : Nat} {H H' : CHeap} {ν ν' : Mu} {w : World} (h : Ext L H ν H' ν') (hS : St K B L ν H w) : ∀ b m, ν b = some m → ν' b = some m := by
  intro b m hm
  rcases Nat.lt_or_ge b H.length with hb | hb
  · rw [h.same b hb]; exact hm
  · rcases Nat.lt_or_ge b L with hl | hl
    · rw [hS.dom b hb hl] at hm; cases hm
    · rw [h.far b hl]; exact hm

/-- What the model's calls owe. -/
def SimF (P : Program) (F : CallF) : Prop := ∀ f args H r, F f args H = some r →
  (∃ fn, P.funcs[f]? = some fn ∧ fn.name ≠ "runtime.NumGoroutine" ∧ fn.body.isSome = true) ∧ H.length ≤ r.2.length ∧
  ∀ K B L ν w (args' : Array Value), r.2.length ≤ L → St K B L ν H w → VL ν args args'.toList →
    Calls P f args' w fun e w' => ∃ v' ν', e = .returned v' ∧ St K B L ν' r.2 w' ∧ V ν' r.1 v' ∧ Ext L H ν r.2 ν'

section
variable {P : Program} {F : CallF} {ν : Mu} {E : Env} {a : Act} {w : World} {H : CHeap} {K : Nat → Option Obj} {B : World} {L : Nat}

theorem Sim.free (h : Sim K B ν H w) : K w.heap.size = none := by
  cases hk : K w.heap.size with
  | none => rfl
  | some o => have := (Array.getElem?_eq_some_iff.1 (h.kept _ _ hk)).1; omega

/-- A new block of both. -/
theorem St.push (h : St K B L ν H w) (hL : H.length < L) {w' : World} {arr : Array Value} {T : TypeId} (hh : w'.heap = w.heap.push (.cells arr T)) (hs : Streams w w') {k : Blk} (hk : k.mode = .rw) (hl : k.cells.length ≤ arr.size)
    (hv : ∀ (i : Nat) (x : CV), k.cells[i]? = some x → ∃ v, arr[i]? = some v ∧ V ν x v) :
    St K B L (ν.set H.length ⟨w.heap.size, 0, k.esz, arr.size⟩) (H ++ [k]) w' ∧ Ext L H ν (H ++ [k]) (ν.set H.length ⟨w.heap.size, 0, k.esz, arr.size⟩) := by
  have hmono : ∀ b m, ν b = some m → (ν.set H.length ⟨w.heap.size, 0, k.esz, arr.size⟩) b = some m := by
    intro b m hm
    have hb : b ≠ H.length := fun e => by rw [e, h.dom _ (Nat.le_refl _) hL] at hm; cases hm
    rw [Mu.set_ne _ _ hb]; exact hm
  have h1 := (h.sim.alloc (.cells arr T)).same (w' := w') hh hs.os hs.tape hs.output
  have h2 := h1.congr (ν := ν.set H.length ⟨w.heap.size, 0, k.esz, arr.size⟩) (fun b hb => Mu.set_ne _ _ (by omega)) hmono
  have h3 := h2.adopt (c := w.heap.size) (arr := arr) (T := T) (s := 0) (by simp) h.sim.base.size hk (by simpa using hl) (Mu.set_self _ _ _)
    (fun i x hx => by obtain ⟨v, hv', hV⟩ := hv i x hx; exact ⟨v, by simpa using hv', V.mono hmono _ _ hV⟩)
  have hK : (fun d => if d = w.heap.size then none else if d = w.heap.size then some (Obj.cells arr T) else K d) = K := by
    funext d
    by_cases hd : d = w.heap.size
    · rw [if_pos hd, hd]; exact h.sim.free.symm
    · rw [if_neg hd, if_neg hd]
  rw [hK] at h3
  exact ⟨⟨h3, fun b hb hl => by simp at hb; rw [Mu.set_ne _ _ (by omega)]; exact h.dom b (by omega) hl⟩, ⟨by simp, fun b hb => Mu.set_ne _ _ (by omega), fun b hb => Mu.set_ne _ _ (by omega)⟩⟩

/-- A row that is left alone by both is written. -/
theorem Sim.rekeep (h : Sim K B ν H w) {c : Nat} {arr arr2 : Array Value} {T : TypeId} (hc : K c = some (.cells arr T)) (hB : B.heap.size ≤ c) :
    Sim (fun d => if d = c then some (.cells arr2 T) else K d) B ν H (w.setRow c arr2) := by
  have hw := h.kept c _ hc
  refine ⟨h.base.trans ⟨rfl, rfl, rfl, by simp, fun q hq => setRow_other w c q _ (by omega)⟩, fun d x hx => ?_, fun b k m hb hd hm => ?_, h.inj⟩
  · split at hx
    · rename_i e; subst e; simp only [Option.some.injEq] at hx; subst hx; exact setRow_heap w d arr arr2 T (0, 0) hw
    · rename_i e; rw [setRow_other w c d _ e]; exact h.kept d x hx
  · obtain ⟨a, T', fz, hw', hcc, hr, hro⟩ := h.blk b k m hb hd hm
    have hne : m.c ≠ c := by
      intro e
      cases hmd : k.mode with
      | rw => have := (hr hmd).2.2.2.2.2; rw [e, hc] at this; cases this
      | ro => have := hro hmd; omega
      | dead => exact hd hmd
    refine ⟨a, T', fz, by rw [setRow_other w c m.c _ hne]; exact hw', hcc, fun e => ?_, hro⟩
    obtain ⟨c1, c2, c3, c4, c5, c6⟩ := hr e
    exact ⟨c1, c2, c3, c4, c5, by rw [if_neg hne]; exact c6⟩

/-- What follows an operation. -/
def Next.after (P : Program) (o : Oper) (a : Act) (w : World) (K : Nat → Option Obj) (B : World) (L : Nat) (H : CHeap) (ν : Mu) (r : CV × CHeap) : Prop :=
  ∀ (next : Act → World → Prop) (Q : Exit → Act → World → Prop), (∀ v' w' ν', St K B L ν' r.2 w' → V ν' r.1 v' → Ext L H ν r.2 ν' → next (a.put o.dst v') w') → o.wp P a w next Q

theorem after_value {o : Oper} {r : CV × CHeap} {v' : Value} {w' : World} {ν' : Mu} (h : (execOp a.eval o).run P w = .ok (.value v') w') (hS : St K B L ν' r.2 w') (hV : V ν' r.1 v') (hE : Ext L H ν r.2 ν') : Next.after P o a w K B L H ν r :=
  fun next Q hn => by
    unfold Oper.wp
    rw [h]
    exact hn v' w' ν' hS hV hE

theorem after_skip {o : Oper} {r : CV × CHeap} {w' : World} {ν' : Mu} (h : (execOp a.eval o).run P w = .ok .skip w') (hS : St K B L ν' r.2 w') (hr : r.1 = .undef) (hE : Ext L H ν r.2 ν') : Next.after P o a w K B L H ν r :=
  fun next Q hn => by
    unfold Oper.wp
    rw [h]
    exact hn undef w' ν' hS (by rw [hr]; simp only [V]; exact ⟨#[], rfl, by simp [VL]⟩) hE

theorem steady_sim (hS : St K B L ν H w) {o : Oper} {op : COp} (hc : compOp P o.op = some op) (hE : ∀ t ∈ op.tmps, V ν (E t) (a.tmps.getD t undef)) {m : Option Blk × (Nat → CV)} (hm : mkOf op E H = some m) (hL : (made H m).2.length ≤ L) :
    Next.after P o a w K B L H ν (made H m) := by
  obtain ⟨v', w', hr, hs, hh⟩ := mk_sim (P := P) hS.sim hc hE hm
  obtain ⟨ob, f⟩ := m
  cases ob with
  | none =>
    obtain ⟨hw, hv⟩ := hh
    exact after_value hr ⟨hS.sim.same hw hs.os hs.tape hs.output, hS.dom⟩ (hv _) (Ext.refl _ _ _)
  | some k =>
    obtain ⟨hk, arr, T, hw, hl, hv, hp⟩ := hh
    obtain ⟨h1, h2⟩ := hS.push (by simp [made] at hL; omega) hw hs hk hl hv
    exact after_value hr h1 (hp _ _ (h2.mono hS) (Mu.set_self _ _ _)) h2

theorem store_sim (hS : St K B L ν H w) {t : TypeId} {n b o : Nat} {x : CV} {xv : Value} (hn : sizeT P t = some n) {m : Tgt} (hm : ν b = some m) (hx : V ν x xv) (hl : (cellsOf x).length = n) {H' : CHeap} (hs : storeN H b o (cellsOf x) = some H') :
    ∃ w', (storeVar t ⟨m.c, m.s + o, none⟩ xv).run P w = .ok () w' ∧ St K B L ν H' w' ∧ H'.length = H.length := by
  obtain ⟨arr, T, hw, hfit, h1, hS', hlen⟩ := hS.sim.write hs hm hx.cells
  have hsz : xv.cells.size = n := by have := hx.cells.length; simp at this; omega
  have hr := run_storeCells_at P m.c (m.s + o) T xv.cells.toList 0 arr w hw (by simpa using hfit) h1
  simp only [Nat.add_zero] at hr
  refine ⟨_, ?_, ⟨hS', fun b' hb' hl' => hS.dom b' (by omega) hl'⟩, hlen⟩
  simp only [storeVar, Sem.run_bind, sizeT_run hn, Result.andThen_ok, hsz, ne_eq, not_true_eq_false, if_false, hr]

theorem row_sim (hS : St K B L ν H w) {b o : Nat} {cs : List CV} {vs : List Value} {m : Tgt} (hm : ν b = some m) (hv : VL ν cs vs) {H' : CHeap} (hs : storeN H b o cs = some H') :
    ∃ w', (storeCells ⟨m.c, m.s + o, none⟩ vs).run P w = .ok () w' ∧ St K B L ν H' w' ∧ H'.length = H.length := by
  obtain ⟨arr, T, hw, hfit, h1, hS', hlen⟩ := hS.sim.write hs hm hv
  have hr := run_storeCells_at P m.c (m.s + o) T vs 0 arr w hw (by simpa using hfit) h1
  simp only [Nat.add_zero] at hr
  exact ⟨_, hr, ⟨hS', fun b' hb' hl' => hS.dom b' (by omega) hl'⟩, hlen⟩

/-- Appending where there is room: in the model the row is written in place. -/
theorem append_room {t u ty e : TypeId} {n : Nat} {i : TypeInfo} {z : Value} (hT : AppT P t u n e i z) {ad : Addr} {sLen sCap : Nat} {x : Value} {k : Nat} {new : Array Value} (hx : (Builtin.lenOf x).run P w = .ok k w)
    (hroom : sLen + k ≤ sCap) (hnew : (Builtin.firstCells n k x).run P w = .ok new w) {w' : World} (hst : (storeCells (ad.add (sLen * n)) new.toList).run P w = .ok () w') :
    (Builtin.append_ #[t, u] ty #[.slice (some ad) sLen sCap, x]).run P w = .ok (.slice (some ad) (sLen + k) sCap) w' := by
  obtain ⟨e', hu⟩ := hT.hu
  simp [Builtin.append_, run_underlying hT.ht, run_underlying hu, sizeOf, typeInfo, hT.hi, hx, hT.hn, hroom, hnew, hst]

theorem append_sim (hS : St K B L ν H w) {t u ty e : TypeId} {n : Nat} {i : TypeInfo} {z : Value} (hT : AppT P t u n e i z) {s x : CV} {sv xv : Value} (hs : V ν s sv) (hx : V ν x xv) {q : Nat × List CV} (he : elems H n x = some q)
    {r : CV × CHeap} (h : appendTo H n s q.1 q.2 = some r) (hL : r.2.length ≤ L) : ∃ v' w' ν', (Builtin.append_ #[t, u] ty #[sv, xv]).run P w = .ok v' w' ∧ St K B L ν' r.2 w' ∧ V ν' r.1 v' ∧ Ext L H ν r.2 ν' := by
  -- where nothing that exists is changed, it is the steady one
  have steady : ∀ m, appendMk H n s q.1 q.2 = some m → r = made H m → ∃ v' w' ν', (Builtin.append_ #[t, u] ty #[sv, xv]).run P w = .ok v' w' ∧ St K B L ν' r.2 w' ∧ V ν' r.1 v' ∧ Ext L H ν r.2 ν' := by
    intro m hm hr
    subst hr
    obtain ⟨v', w', hrun, hst, hh⟩ := appendMk_run (P := P) (ty := ty) hS.sim hT hs hx he hm
    have hrun' : (Builtin.append_ #[t, u] ty #[sv, xv]).run P w = .ok v' w' := by
      simp only [Sem.run_bind] at hrun
      generalize (Builtin.append_ #[t, u] ty #[sv, xv]).run P w = g at *
      cases g with
      | ok v2 w2 => simp at hrun; obtain ⟨rfl, rfl⟩ := hrun; rfl
      | halt x w2 => simp at hrun
    obtain ⟨ob, f⟩ := m
    cases ob with
    | none =>
      obtain ⟨hw, hv⟩ := hh
      exact ⟨v', w', ν, hrun', ⟨hS.sim.same hw hst.os hst.tape hst.output, hS.dom⟩, hv _, Ext.refl _ _ _⟩
    | some k =>
      obtain ⟨hk, arr, T, hw, hl, hv, hp⟩ := hh
      obtain ⟨h1, h2⟩ := hS.push (by simp [made] at hL; omega) hw hst hk hl hv
      exact ⟨v', w', _, hrun', h1, hp _ _ (h2.mono hS) (Mu.set_self _ _ _), h2⟩
  unfold appendTo at h
  split at h
  · split at h
    · rename_i h0
      simp only [Option.some.injEq] at h
      exact steady (none, fun _ => .nilSlice) (by unfold appendMk; simp only [if_pos h0]) h.symm
    · rename_i h0
      split at h
      · rename_i hmax
        simp only [Option.some.injEq] at h
        exact steady (some ⟨q.2, .rw, n⟩, fun k => .slice k 0 q.1 q.1 n true) (by unfold appendMk; simp only [if_neg h0, if_pos hmax]) h.symm
      · cases h
  · rename_i b o len cap ez tail
    split at h
    · rename_i h0
      simp only [Option.some.injEq] at h
      exact steady (none, fun _ => .slice b o len cap ez tail) (by unfold appendMk; simp only [if_pos h0]) h.symm
    · rename_i h0
      have hlen := lenOf_run (P := P) (w := w) hx he
      obtain ⟨new, hnv, hns, hnew⟩ := elems_run (P := P) hS.sim hx he
      have hs2 := hs
      simp only [V] at hs2
      obtain ⟨mm, cap', off, hb, hez, hsv, hl, htail, hoff, hfit⟩ := hs2
      have hcc : cap ≤ cap' := by split at htail <;> omega
      split at h
      · -- room in the clean machine too
        rename_i hroom
        rw [Option.map_eq_some_iff] at h
        obtain ⟨H', hH', rfl⟩ := h
        have hoff' := hoff.resolve_left (by omega)
        obtain ⟨w', hst, hS', hlen'⟩ := row_sim (P := P) hS hb hnv hH'
        subst hsv
        refine ⟨_, w', ν, append_room hT hlen (by omega) (hnew w rfl) (w' := w') (by rw [Addr.add_lit, hoff', Nat.add_assoc]; exact hst), hS', ?_, ⟨by dsimp only; omega, fun _ _ => rfl, fun _ _ => rfl⟩⟩
        simp only [V]
        exact ⟨mm, cap', off, hb, hez, rfl, by omega, htail, hoff, hfit⟩
      · rename_i hroom
        split at h
        · rename_i hmax
          rw [Option.bind_eq_some_iff] at h
          obtain ⟨old, hold, h⟩ := h
          cases tail with
          | false =>
            simp only [Bool.false_eq_true, if_false, Option.some.injEq] at h
            exact steady (some ⟨old ++ q.2, .rw, n⟩, fun k => .slice k 0 (len + q.1) (len + q.1) n true) (by unfold appendMk; simp only [if_neg h0]; rw [if_pos ⟨trivial, by omega, hmax⟩, hold]; rfl) h.symm
          | true =>
            simp only [if_true] at h htail
            split at h
            · rename_i blk hblk
              split at h
              · rename_i hcond
                obtain ⟨hrw, hee, hend, hleaf⟩ := hcond
                simp only [Option.some.injEq] at h
                subst h
                have holdc : old.length = len * n := by
                  split at hold
                  · rename_i hl0; simp only [Option.some.injEq] at hold; subst hold; subst hl0; simp
                  · exact (hS.sim.loadN hold hb).1
                have hnewl : q.2.length = q.1 * n := by have := hnv.length; simp at this; omega
                by_cases hin : len + q.1 ≤ cap'
                · -- the model writes in place
                  obtain ⟨arr, T, hwm, hasz, hesz, hfits, hBc, hown⟩ := hS.sim.own hblk hrw hb
                  have hKn : K mm.c = none := by
                    obtain ⟨_, _, _, _, _, hr, _⟩ := hS.sim.blk b blk mm hblk (by rw [hrw]; decide) hb
                    exact (hr hrw).2.2.2.2.2
                  have hoff' := hoff.resolve_left (by omega)
                  rw [hoff', hez, hee] at hfit
                  have h1 : (len + q.1) * n ≤ cap' * n := Nat.mul_le_mul_right _ hin
                  rw [Nat.add_mul] at h1
                  have hfit2 : mm.s + (o + len * n) + new.toList.length ≤ arr.size := by
                    rw [hasz]
                    simp only [Array.length_toList, hns]
                    omega
                  have hr := run_storeCells_at P mm.c (mm.s + (o + len * n)) T new.toList 0 arr w hwm (by simpa using hfit2) (hnv.leaf hleaf)
                  simp only [Nat.add_zero] at hr
                  generalize harr2 : (arr.toList.take (mm.s + (o + len * n)) ++ new.toList ++ arr.toList.drop (mm.s + (o + len * n) + new.toList.length)).toArray = arr2 at hr
                  have hsz2 : arr2.size = arr.size := by rw [← harr2]; simp at hfit2 ⊢; omega
                  have hmono : ∀ b' m', ν b' = some m' → (ν.set H.length ⟨mm.c, mm.s + o, n, arr2.size⟩) b' = some m' := by
                    intro b' m' hm'
                    have hb' : b' ≠ H.length := fun e => by rw [e, hS.dom _ (Nat.le_refl _) (by simp at hL; omega)] at hm'; cases hm'
                    rw [Mu.set_ne _ _ hb']; exact hm'
                  have hre := hown.rekeep (c := mm.c) (arr := arr) (arr2 := arr2) (T := T) (by simp) hBc
                  have hre2 := hre.congr (ν := ν.set H.length ⟨mm.c, mm.s + o, n, arr2.size⟩) (fun b' hb' => Mu.set_ne _ _ (by simp at hb'; omega)) hmono
                  have had := hre2.adopt (k := ⟨old ++ q.2, .rw, n⟩) (c := mm.c) (arr := arr2) (T := T) (s := mm.s + o) (by simp) hBc rfl
                    (by simp only [List.length_append, holdc, hnewl, hsz2, hasz]; omega) (by simp only [List.length_set]; exact Mu.set_self _ _ _) (fun i c hi => by
                      dsimp only at hi
                      by_cases hlt : i < old.length
                      · rw [List.getElem?_append_left hlt] at hi
                        have hl0 : len ≠ 0 := fun e => by rw [e] at holdc; simp at holdc; rw [holdc] at hlt; simp at hlt
                        rw [if_neg hl0] at hold
                        obtain ⟨_, vs, hvs, hcell⟩ := hS.sim.loadN hold hb
                        obtain ⟨v, hv, hV⟩ := hvs.get hi
                        have hc2 := hcell i v hv
                        simp only [World.cell?, hwm] at hc2
                        refine ⟨v, ?_, V.mono hmono _ _ hV⟩
                        have hc3 : arr[mm.s + o + i]? = some v := by simpa using hc2
                        have hlt2 := (Array.getElem?_eq_some_iff.1 hc3).1
                        rw [← harr2, List.getElem?_toArray, List.append_assoc, List.getElem?_append_left (by simp; omega), List.getElem?_take, if_pos (by omega)]
                        simpa using hc3
                      · rw [List.getElem?_append_right (by omega)] at hi
                        obtain ⟨v, hv, hV⟩ := hnv.get hi
                        refine ⟨v, ?_, V.mono hmono _ _ hV⟩
                        have hvl := (List.getElem?_eq_some_iff.1 hv).1
                        rw [← harr2, List.getElem?_toArray, List.append_assoc, List.getElem?_append_right (by simp; omega), List.getElem?_append_left (by simp at hfit2 hvl ⊢; omega), ← hv]
                        congr 1
                        simp at hfit2 ⊢
                        omega)
                  have hKK : (fun d => if d = mm.c then none else if d = mm.c then some (Obj.cells arr2 T) else if d = mm.c then some (Obj.cells arr T) else K d) = K := by
                    funext d
                    by_cases hd : d = mm.c
                    · rw [if_pos hd, hd, hKn]
                    · rw [if_neg hd, if_neg hd, if_neg hd]
                  rw [hKK] at had
                  subst hsv
                  refine ⟨_, _, _, append_room hT hlen hin (hnew w rfl) (by rw [Addr.add_lit, hoff', Nat.add_assoc]; exact hr), ⟨had, fun b' hb' hl' => ?_⟩, ?_, ⟨by simp, fun b' hb' => Mu.set_ne _ _ (by omega), fun b' hb' => Mu.set_ne _ _ (by simp at hL; omega)⟩⟩
                  · simp at hb'
                    rw [Mu.set_ne _ _ (by omega)]
                    exact hS.dom b' (by omega) hl'
                  · simp only [V]
                    refine ⟨_, cap', off, Mu.set_self _ _ _, rfl, rfl, hin, by simp; omega, .inr (by rw [hoff']; simp), ?_⟩
                    dsimp only
                    rw [hsz2, hasz, hoff']
                    omega
                · -- the model makes a new row
                  have hdead : St K B L ν (H.set b { blk with mode := .dead }) w := ⟨hS.sim.kill hblk, fun b' hb' hl' => hS.dom b' (by simpa using hb') hl'⟩
                  have : ∃ olda : Array Value, VL ν old olda.toList ∧ olda.size = len * n ∧ ∀ w', w'.heap = w.heap → (Builtin.firstCells n len sv).run P w' = .ok olda w' := by
                    have he' : elems H n (.slice b o len cap ez true) = some (len, old) := by
                      unfold elems
                      dsimp only
                      split at hold
                      · rename_i h00
                        simp only [Option.some.injEq] at hold; subst hold; subst h00
                        rfl
                      · rename_i h00
                        rw [if_neg h00, hold]; rfl
                    exact elems_run (P := P) hS.sim hs he'
                  obtain ⟨olda, hov, hos, holdr⟩ := this
                  rw [hsv] at holdr
                  subst hsv
                  obtain ⟨cap2, rest, hr, hge, hsz⟩ := append_grow (P := P) (w := w) (ty := ty) hT hlen (by omega) hmax holdr hnew hos hns
                  obtain ⟨h1, h2⟩ := hdead.push (by simp at hL ⊢; omega) (k := ⟨old ++ q.2, .rw, n⟩) (w' := w.drew.alloc (.cells (olda ++ new ++ rest) e)) (arr := olda ++ new ++ rest) (T := e) rfl ⟨rfl, rfl, rfl⟩ rfl
                    (by
                      dsimp only
                      rw [hsz, List.length_append, holdc, hnewl, ← Nat.add_mul]
                      exact Nat.mul_le_mul_right _ hge)
                    (fun j c hj => by
                      obtain ⟨v, hv, hV⟩ := (hov.append hnv).get hj
                      refine ⟨v, ?_, hV⟩
                      have hjl : j < (olda ++ new).size := by have := (List.getElem?_eq_some_iff.1 hv).1; simpa using this
                      rw [Array.getElem?_append_left hjl, ← Array.getElem?_toList, Array.toList_append]
                      exact hv)
                  refine ⟨_, _, _, hr, h1, ?_, ⟨by simp, fun b' hb' => ?_, fun b' hb' => h2.far b' hb'⟩⟩
                  · simp only [V]
                    refine ⟨_, cap2, 0, by rw [List.length_set]; exact Mu.set_self _ _ _, rfl, rfl, hge, by simp; exact hge, .inr (by simp), ?_⟩
                    dsimp only
                    rw [hsz]
                    omega
                  · rw [List.length_set]
                    exact Mu.set_ne _ _ (by omega)
              · cases h
            · cases h
        · cases h
  · cases h
end
end Go.Cs

/- Every operation, calls among them. -/
namespace Go.Cs
open Go Go.RowKit

section
variable {P : Program} {F : CallF} {ν : Mu} {E : Env} {a : Act} {w : World} {H : CHeap} {K : Nat → Option Obj} {B : World} {L : Nat}

theorem callFunc_run {f : Nat} {fn : Func} (h1 : P.funcs[f]? = some fn) (h2 : fn.name ≠ "runtime.NumGoroutine") (h3 : fn.body.isSome = true) (args : Array Value) :
    (callFunc f args).run P w = .ok (.enter f args) w := by
  obtain ⟨c, hc⟩ := Option.isSome_iff_exists.1 h3
  simp [callFunc, h1, h2, hc]

theorem call_after (hF : SimF P F) (hS : St K B L ν H w) {o : Oper} {f : Nat} {args : List CV} {args' : Array Value} {r : CV × CHeap} (h : F f args H = some r) (hL : r.2.length ≤ L) (hv : VL ν args args'.toList)
    (hr : ∀ fn, P.funcs[f]? = some fn → fn.name ≠ "runtime.NumGoroutine" → fn.body.isSome = true → (execOp a.eval o).run P w = .ok (.enter f args') w) : Next.after P o a w K B L H ν r := by
  obtain ⟨⟨fn, h1, h2, h3⟩, _, hcalls⟩ := hF f args H r h
  intro next Q hn
  unfold Oper.wp
  rw [hr fn h1 h2 h3, Oper.upon_enter]
  refine (hcalls K B L ν w args' hL hS hv).mono fun e w' he => ?_
  obtain ⟨v', ν', rfl, hS', hV, hx⟩ := he
  exact hn v' w' ν' hS' hV hx

def steadyOp : COp → Bool
  | .store .. | .append .. | .copy .. | .clear .. | .call .. | .callv .. => false
  | _ => true

theorem opc_steady {op : COp} (h : steadyOp op = true) : opc F op E H = (mkOf op E H).map (made H) := by
  cases op <;> first | rfl | cases h

theorem comp_cases {oop : Op} {op : COp} (h : compOp P oop = some op) : steadyOp op = true ∨ (∃ t x v, oop = .store t x v) ∨ ∃ c, oop = .call c := by
  cases oop with
  | store t x v => exact .inr (.inl ⟨t, x, v, rfl⟩)
  | call c => exact .inr (.inr ⟨c, rfl⟩)
  | binOp op' t x y yt =>
    simp only [compOp, Option.bind_eq_some_iff] at h
    obtain ⟨_, _, _, _, h⟩ := h
    refine .inl ?_
    split at h
    · cases op' <;> simp at h <;> (subst h; rfl)
    · cases op' <;> simp at h <;> (subst h; rfl)
    · cases op' <;> simp at h <;> (subst h; rfl)
    · cases op' <;> simp at h <;> (subst h; rfl)
    · obtain ⟨_, h⟩ := guardB_some h
      cases op' <;> simp at h <;> (subst h; rfl)
    · cases h
  | build t parts =>
    simp only [compOp] at h
    split at h
    · simp only [Option.bind_eq_some_iff, Option.map_eq_some_iff] at h
      obtain ⟨_, _, _, _, _, _, rfl⟩ := h
      exact .inl rfl
    · cases h
  | fieldAddr t x f =>
    simp only [compOp] at h
    split at h
    · simp only [Option.bind_eq_some_iff] at h
      obtain ⟨_, _, _, _, _, _, h⟩ := h
      obtain ⟨_, h⟩ := guardB_some h
      simp only [Option.some.injEq] at h
      subst h
      exact .inl rfl
    · cases h
  | buildSlice t n parts =>
    simp only [compOp, Option.bind_eq_some_iff] at h
    obtain ⟨_, _, _, _, _, _, _, _, h⟩ := h
    obtain ⟨_, h⟩ := guardB_some h
    simp only [Option.some.injEq] at h
    subst h
    exact .inl rfl
  | makeSlice t l c =>
    simp only [compOp, Option.bind_eq_some_iff] at h
    obtain ⟨_, _, _, _, _, _, _, _, _, _, _, _, h⟩ := h
    obtain ⟨_, h⟩ := guardB_some h
    simp only [Option.some.injEq] at h
    subst h
    exact .inl rfl
  | unOp op' t x =>
    cases op' <;> simp only [compOp, Option.map_eq_some_iff] at h <;> first | cases h; done | (obtain ⟨_, _, rfl⟩ := h; exact .inl rfl)
  | makeFunc fn first caps =>
    cases fn <;> simp only [compOp] at h <;> first | cases h; done | skip
    split at h
    · simp only [Option.map_eq_some_iff] at h
      obtain ⟨_, _, rfl⟩ := h
      exact .inl rfl
    · cases h
  | _ =>
    simp only [compOp, Option.bind_eq_some_iff, Option.map_eq_some_iff] at h
    first
    | cases h; done
    | (obtain ⟨_, _, rfl⟩ := h; exact .inl rfl)
    | (obtain ⟨_, _, _, _, rfl⟩ := h; exact .inl rfl)
    | (obtain ⟨_, _, _, _, _, _, rfl⟩ := h; exact .inl rfl)
    | (obtain ⟨_, _, _, _, _, _, _, _, rfl⟩ := h; exact .inl rfl)
    | (obtain ⟨_, _, _, _, _, _, _, _, _, _, rfl⟩ := h; exact .inl rfl)
    | (obtain ⟨_, _, _, _, _, _, _, _, _, _, _, _, rfl⟩ := h; exact .inl rfl)

/-- Every operation of the model that the clean machine has. -/
theorem op_sim (hF : SimF P F) (hS : St K B L ν H w) {o : Oper} {op : COp} (hc : compOp P o.op = some op) (hE : ∀ t ∈ op.tmps, V ν (E t) (a.tmps.getD t undef)) {r : CV × CHeap} (h : opc F op E H = some r) (hL : r.2.length ≤ L) :
    Next.after P o a w K B L H ν r := by
  rcases comp_cases hc with hst | ⟨t, x, v, ho⟩ | ⟨c, ho⟩
  · rw [opc_steady hst, Option.map_eq_some_iff] at h
    obtain ⟨m, hm, rfl⟩ := h
    exact steady_sim hS hc hE hm hL
  · have hc' := hc
    rw [ho] at hc'
    simp only [compOp, Option.bind_eq_some_iff, Option.map_eq_some_iff] at hc'
    obtain ⟨n, hn, x', hx, v', hv, rfl⟩ := hc'
    have h1 := opd_V hx (fun t ht => hE t (by simp [COp.tmps, ht]))
    have h2 := opd_V hv (fun t ht => hE t (by simp [COp.tmps, ht]))
    simp only [opc, opv] at h
    split at h
    · rename_i b off hb
      split at h
      · rename_i hl
        rw [Option.map_eq_some_iff] at h
        obtain ⟨H', hs, rfl⟩ := h
        rw [hb] at h1
        simp only [V] at h1
        obtain ⟨m, hm, he⟩ := h1
        obtain ⟨w', hr, hS', hlen⟩ := store_sim (P := P) hS hn hm h2 hl hs
        refine after_skip (w' := w') (ν' := ν) ?_ hS' rfl ⟨by dsimp only; omega, fun _ _ => rfl, fun _ _ => rfl⟩
        simp [execOp, ho, Instr.storeAt, he, Instr.sureAddr, hr]
      · cases h
    · cases h
  · obtain ⟨callee, args, argTypes⟩ := c
    have hc' := hc
    rw [ho] at hc'
    simp only [compOp, compCall] at hc'
    split at hc'
    · rename_i f
      simp only [Option.map_eq_some_iff] at hc'
      obtain ⟨l, hl, rfl⟩ := hc'
      simp only [opc] at h
      refine call_after hF hS h hL (opds_VL hl (fun t ht => hE t (by simpa [COp.tmps] using ht))) fun fn h1 h2 h3 => ?_
      simp [execOp, ho, resolve, Act.eval, Deferred.ofValue, invoke, callFunc_run h1 h2 h3]
    · rename_i t
      simp only [Option.map_eq_some_iff] at hc'
      obtain ⟨l, hl, rfl⟩ := hc'
      simp only [opc] at h
      split at h
      · rename_i f caps hf
        have h1 : V ν (E t) (a.tmps.getD t undef) := hE t (by simp [COp.tmps, opdTmps])
        simp only [Env.ev] at hf
        rw [hf] at h1
        simp only [V] at h1
        obtain ⟨vs, hvs, hvl⟩ := h1
        have hargs := opds_VL (a := a) (ν := ν) (E := E) hl (fun t ht => hE t (by simp [COp.tmps] at ht ⊢; exact .inr ht))
        refine call_after (args' := args.map a.eval ++ vs) hF hS h hL (by rw [Array.toList_append]; exact hargs.append hvl) fun fn h1 h2 h3 => ?_
        have he : a.eval (.tmp t) = .func (.func f) #[] vs := hvs
        simp [execOp, ho, resolve, he, Deferred.ofValue, invoke, callFunc_run h1 h2 h3]
      · cases h
    · split at hc'
      · simp only [Option.bind_eq_some_iff, Option.map_eq_some_iff] at hc'
        obtain ⟨_, _, _, _, rfl⟩ := hc'
        rw [opc_steady rfl, Option.map_eq_some_iff] at h
        obtain ⟨m, hm, rfl⟩ := h
        exact steady_sim hS hc hE hm hL
      · cases hc'
    · split at hc'
      · rename_i s x t u hxs hts
        simp only [Option.bind_eq_some_iff] at hc'
        obtain ⟨e, he, e', he', n, hn, b, hb, z, hz, s', hs, x', hx, hg⟩ := hc'
        obtain ⟨hgd, hop⟩ := guardB_some hg
        simp only [Option.some.injEq] at hop
        subst hop
        simp only [Bool.and_eq_true, decide_eq_true_eq] at hgd
        obtain ⟨⟨⟨hn0, hb0⟩, hb4⟩, hzl⟩ := hgd
        obtain ⟨i, v, hi, hv, hV⟩ := zeroOf_V ν hz
        have ha : args = #[s, x] := by rw [← Array.toArray_toList (xs := args), hxs]
        have hat : argTypes = #[t, u] := by rw [← Array.toArray_toList (xs := argTypes), hts]
        subst ha; subst hat
        have h1 := opd_V hs (fun t ht => hE t (by simp [COp.tmps, ht]))
        have h2 := opd_V hx (fun t ht => hE t (by simp [COp.tmps, ht]))
        simp only [opc, opv, Option.bind_eq_some_iff] at h
        obtain ⟨q, hq, h⟩ := h
        have hT : AppT P t u n e i v := by
          refine ⟨sliceElem_und he, ⟨e', sliceElem_und he'⟩, hi, hv, ?_, ?_, ?_, hn0⟩
          · obtain ⟨i', hi', rfl⟩ := sizeT_info hn
            rw [hi] at hi'; simp only [Option.some.injEq] at hi'; subst hi'; rfl
          · have := hV.length; simp at this; omega
          · simp only [bytesT, hi, Option.map_some, Option.some.injEq] at hb; omega
        obtain ⟨v', w', ν', hr, hS', hV', hx'⟩ := append_sim (P := P) (ty := o.type) hS hT h1 h2 hq h hL
        exact after_value (v' := v') (by simp [execOp, ho, resolve, invoke, builtin, hr]) hS' hV' hx'
      · cases hc'
    · split at hc'
      · rename_i d s t u hxs hts
        simp only [Option.bind_eq_some_iff, Option.map_eq_some_iff] at hc'
        obtain ⟨e, he, e', he', n, hn, d', hd, s', hs, rfl⟩ := hc'
        have ha : args = #[d, s] := by rw [← Array.toArray_toList (xs := args), hxs]
        have hat : argTypes = #[t, u] := by rw [← Array.toArray_toList (xs := argTypes), hts]
        subst ha; subst hat
        have h1 := opd_V hd (fun t ht => hE t (by simp [COp.tmps, ht]))
        have h2 := opd_V hs (fun t ht => hE t (by simp [COp.tmps, ht]))
        have hu := sliceElem_und he
        have idle : ∀ (db sb : Option Addr) (dl dc sl sc : Nat), a.eval d = .slice db dl dc → a.eval s = .slice sb sl sc → Nat.min sl dl = 0 → (execOp a.eval o).run P w = .ok (.value (.int .i64 0)) w := by
          intro db sb dl dc sl sc e1 e2 e3
          have hf : (Builtin.firstCells n 0 (.slice sb sl sc)).run P w = .ok #[] w := by
            cases sb with
            | none => exact run_firstCells_none w _ _ _ _
            | some ad => exact run_firstCells_some w n 0 ad sl sc [] (by simp) (by simp)
          cases db <;> simp [execOp, ho, resolve, invoke, builtin, Builtin.copy_, run_underlying hu, e1, e2, Builtin.lenOf, e3, sizeT_run hn, hf, goInt, storeCells]
        simp only [opc, opv] at h
        split at h
        · rename_i b1 o1 l1 c1 z1 t1 b2 o2 l2 c2 z2 t2 e1 e2
          rw [e1] at h1
          rw [e2] at h2
          simp only [V] at h1 h2
          obtain ⟨m1, k1, f1, hm1, hz1, hv1, hl1, ht1, ho1, hfit1⟩ := h1
          obtain ⟨m2, k2, f2, hm2, hz2, hv2, hl2, ht2, ho2, hfit2⟩ := h2
          split at h
          · rename_i h0
            simp only [Option.some.injEq] at h
            subst h
            exact after_value (idle _ _ _ _ _ _ hv1 hv2 h0) hS (by simp [V]) (Ext.refl _ _ _)
          · rename_i h0
            rw [Option.bind_eq_some_iff] at h
            obtain ⟨cs, hcs, h⟩ := h
            rw [Option.map_eq_some_iff] at h
            obtain ⟨H', hH', rfl⟩ := h
            have f1' := ho1.resolve_left (by omega)
            have f2' := ho2.resolve_left (by omega)
            obtain ⟨hlen, vs, hvs, hcell⟩ := hS.sim.loadN hcs hm2
            obtain ⟨w', hst, hS', hle⟩ := row_sim (P := P) hS hm1 hvs hH'
            have hf : (Builtin.firstCells n (Nat.min l2 l1) (.slice (some ⟨m2.c, f2, none⟩) l2 k2)).run P w = .ok vs.toArray w :=
              run_firstCells_some w n _ _ _ _ vs (by rw [hvs.length, hlen]) fun j u hu => by rw [Addr.add_lit, f2']; exact hcell j u hu
            refine after_value (v' := .int .i64 (min l2 l1 : Nat)) (w' := w') (ν' := ν) ?_ hS' (by simp [V]) ⟨by dsimp only; omega, fun _ _ => rfl, fun _ _ => rfl⟩
            have hst' : (storeCells ⟨m1.c, f1, none⟩ vs).run P w = .ok () w' := by rw [f1']; exact hst
            simp [execOp, ho, resolve, invoke, builtin, Builtin.copy_, run_underlying hu, hv1, hv2, Builtin.lenOf, sizeT_run hn, hf, goInt, hst']
        · rename_i b2 o2 l2 c2 z2 t2 e1 e2
          rw [e1] at h1
          rw [e2] at h2
          simp only [V] at h1 h2
          obtain ⟨m2, k2, f2, hm2, hz2, hv2, _⟩ := h2
          simp only [Option.some.injEq] at h
          subst h
          exact after_value (idle _ _ _ _ _ _ h1 hv2 (Nat.min_zero _)) hS (by simp [V]) (Ext.refl _ _ _)
        · rename_i b2 o2 l2 c2 z2 t2 e1 e2
          rw [e1] at h1
          rw [e2] at h2
          simp only [V] at h1 h2
          obtain ⟨m2, k2, f2, hm2, hz2, hv2, _⟩ := h1
          simp only [Option.some.injEq] at h
          subst h
          exact after_value (idle _ _ _ _ _ _ hv2 h2 (Nat.zero_min _)) hS (by simp [V]) (Ext.refl _ _ _)
        · rename_i e1 e2
          rw [e1] at h1
          rw [e2] at h2
          simp only [V] at h1 h2
          simp only [Option.some.injEq] at h
          subst h
          exact after_value (idle _ _ _ _ _ _ h1 h2 (Nat.zero_min _)) hS (by simp [V]) (Ext.refl _ _ _)
        · cases h
      · cases hc'
    · split at hc'
      · rename_i s t hxs hts
        simp only [Option.bind_eq_some_iff, Option.map_eq_some_iff] at hc'
        obtain ⟨e, he, z, hz, s', hs, rfl⟩ := hc'
        have ha : args = #[s] := by rw [← Array.toArray_toList (xs := args), hxs]
        subst ha
        have h1 := opd_V hs hE
        obtain ⟨i, v, hi, hv, hV⟩ := zeroOf_V ν hz
        have hu := sliceElem_und he
        simp only [opc, opv] at h
        split at h
        · rename_i b1 o1 l1 c1 z1 t1 e1
          rw [e1] at h1
          simp only [V] at h1
          obtain ⟨m1, k1, f1, hm1, hz1, hv1, hl1, ht1, ho1, hfit1⟩ := h1
          split at h
          · rename_i h0
            subst h0
            simp only [Option.some.injEq] at h
            subst h
            refine after_value (v' := .tuple #[]) (w' := w) (ν' := ν) ?_ hS (by simp [V, VL]) (Ext.refl _ _ _)
            simp [execOp, ho, resolve, invoke, builtin, Builtin.clear_, hts, run_underlying hu, hv1]
          · rename_i h0
            rw [Option.map_eq_some_iff] at h
            obtain ⟨H', hH', rfl⟩ := h
            have f1' := ho1.resolve_left (by omega)
            have hz0 := VL_replicate hV l1
            rw [← range_mod] at hz0
            obtain ⟨w', hst, hS', hle⟩ := row_sim (P := P) hS hm1 hz0 hH'
            refine after_value (v' := .tuple #[]) (w' := w') (ν' := ν) ?_ hS' (by simp [V, VL]) ⟨by dsimp only; omega, fun _ _ => rfl, fun _ _ => rfl⟩
            have hst' : (storeCells ⟨m1.c, f1, none⟩ (Builtin.zeroCells v.cells l1).toList).run P w = .ok () w' := by rw [f1']; exact hst
            obtain ⟨l, rfl⟩ : ∃ l, l1 = l + 1 := ⟨l1 - 1, by omega⟩
            refine execOp_value (s := Builtin.clear_ argTypes o.type #[a.eval s]) (by simp [execOp, ho, resolve, invoke, builtin]) ?_
            simp only [Builtin.clear_, hv1]
            simp [hts, run_underlying hu, zeroValue_run hi hv, hst']
        · rename_i e1
          rw [e1] at h1
          simp only [V] at h1
          simp only [Option.some.injEq] at h
          subst h
          refine after_value (v' := .tuple #[]) (w' := w) (ν' := ν) ?_ hS (by simp [V, VL]) (Ext.refl _ _ _)
          simp [execOp, ho, resolve, invoke, builtin, Builtin.clear_, hts, run_underlying hu, h1]
        · cases h
      · cases hc'
    · cases hc'
end
end Go.Cs

/- The clean machine's denotation without fuel, and its equations. -/
namespace Go.Cs
open Go

/-- As defined as: what the one side gives the other gives. -/
def Le {α : Type} (x y : Option α) : Prop := ∀ r, x = some r → y = some r

theorem Le.refl {α : Type} (x : Option α) : Le x x := fun _ h => h
theorem Le.trans {α : Type} {x y z : Option α} (h : Le x y) (k : Le y z) : Le x z := fun r e => k r (h r e)
theorem Le.none {α : Type} (y : Option α) : Le Option.none y := fun _ h => by cases h
theorem Le.bind {α β : Type} {x y : Option α} {f g : α → Option β} (h : Le x y) (k : ∀ a, Le (f a) (g a)) : Le (x.bind f) (y.bind g) := by
  intro r e
  cases hx : x with
  | none => rw [hx] at e; cases e
  | some a => rw [hx] at e; rw [h a hx]; exact k a r e
theorem Le.map {α β : Type} {x y : Option α} (f : α → β) (h : Le x y) : Le (x.map f) (y.map f) := by
  intro r e
  cases hx : x with
  | none => rw [hx] at e; cases e
  | some a => rw [hx] at e; rw [h a hx]; exact e

def CallF.le (F G : CallF) : Prop := ∀ f a H, Le (F f a H) (G f a H)

theorem opc_le {F G : CallF} (h : F.le G) (op : COp) (E : Env) (H : CHeap) : Le (opc F op E H) (opc G op E H) := by
  unfold opc
  cases op <;> first | exact Le.refl _ | exact h _ _ _ | skip
  rename_i g args
  dsimp only
  cases E.ev g <;> first | exact Le.refl _ | exact h _ _ _

theorem evStmt_le {F G : CallF} (h : F.le G) (s : CStmt) (E : Env) (H : CHeap) : Le (evStmt F s E H) (evStmt G s E H) := by
  unfold evStmt
  cases wanted s.guard E
  · exact Le.refl _
  · exact Le.map _ (opc_le h _ _ _)

theorem evOps_le {F G : CallF} (h : F.le G) : ∀ (l : List CStmt) (E : Env) (H : CHeap), Le (evOps F l E H) (evOps G l E H)
  | [], _, _ => Le.refl _
  | s :: r, E, H => by
    unfold evOps
    exact Le.bind (evStmt_le h s E H) fun p => evOps_le h r p.1 p.2

theorem evD_le {F G : CallF} (h : F.le G) : ∀ (l : List DStmt) (E : Env) (H : CHeap) (hs : List CHeap), Le (evD F l E H hs) (evD G l E H hs)
  | [], _, _, _ => Le.refl _
  | d :: r, E, H, hs => by
    unfold evD
    split
    · exact evD_le h r _ _ _
    · split
      · exact Le.bind (opc_le h _ _ _) fun p => evD_le h r _ _ _
      · refine Le.bind (Le.refl _) fun m => ?_
        split
        · exact evD_le h r _ _ _
        · exact Le.refl _

theorem callN_le_of {p : CProg} {n m : Nat} (h : ∀ c E H, Le (ev p n c E H) (ev p m c E H)) : (callN p n).le (callN p m) := by
  intro f a H
  unfold callN
  exact Le.bind (Le.refl _) fun cf => Le.bind (h _ _ _) fun r => Le.refl _

theorem ev_succ (p : CProg) (n : Nat) (c : CCode) (E : Env) (H : CHeap) : ev p (n + 1) c E H =
    (match c with
    | .skip => some (.normal, E, H)
    | .region ops => (evOps (callN p n) ops E H).map fun q => (.normal, q.1, q.2)
    | .dregion ops => (evD (callN p n) ops E H []).map fun q => (.normal, q.1, q.2)
    | .seq a b => (ev p n a E H).bind fun r => match r.1 with | .normal => ev p n b r.2.1 r.2.2 | _ => some r
    | .cond c a b => match E.ev c with | .bool t => ev p n (if t then a else b) E H | _ => none
    | .block id c => (ev p n c E H).map fun r => (r.1.inBlock id, r.2)
    | .loop c => (ev p n c E H).bind fun r => match r.1 with | .normal => ev p n (.loop c) r.2.1 r.2.2 | _ => some r
    | .exit id => some (.exit id, E, H)
    | .ret => some (.ret, E, H)) := by
  cases c <;> rfl

theorem ev_le_succ (p : CProg) : ∀ (n : Nat) (c : CCode) (E : Env) (H : CHeap), Le (ev p n c E H) (ev p (n + 1) c E H)
  | 0, _, _, _ => Le.none _
  | n + 1, c, E, H => by
    have ih := ev_le_succ p n
    rw [ev_succ p n, ev_succ p (n + 1)]
    cases c with
    | skip => exact Le.refl _
    | region ops => exact Le.map _ (evOps_le (callN_le_of ih) _ _ _)
    | dregion ops => exact Le.map _ (evD_le (callN_le_of ih) _ _ _ _)
    | seq a b => exact Le.bind (ih _ _ _) fun r => by cases r.1 <;> first | exact ih _ _ _ | exact Le.refl _
    | cond c a b =>
      show Le (match E.ev c with | .bool t => ev p n (if t then a else b) E H | _ => none) (match E.ev c with | .bool t => ev p (n + 1) (if t then a else b) E H | _ => none)
      cases E.ev c <;> first | exact ih _ _ _ | exact Le.refl _
    | block id c => exact Le.map _ (ih _ _ _)
    | loop c => exact Le.bind (ih _ _ _) fun r => by cases r.1 <;> first | exact ih _ _ _ | exact Le.refl _
    | exit id => exact Le.refl _
    | ret => exact Le.refl _

theorem ev_le (p : CProg) {n m : Nat} (h : n ≤ m) (c : CCode) (E : Env) (H : CHeap) : Le (ev p n c E H) (ev p m c E H) := by
  induction h with
  | refl => exact Le.refl _
  | step _ ih => exact ih.trans (ev_le_succ p _ c E H)

theorem callN_le (p : CProg) {n m : Nat} (h : n ≤ m) : (callN p n).le (callN p m) := callN_le_of (ev_le p h)

/-! ### The limit -/

open Classical in
noncomputable def lim {α : Type} (f : Nat → Option α) : Option α := if h : ∃ r n, f n = some r then some h.choose else none

theorem lim_some {α : Type} {f : Nat → Option α} (hm : ∀ n m, n ≤ m → Le (f n) (f m)) {r : α} : lim f = some r ↔ ∃ n, f n = some r := by
  unfold lim
  constructor
  · intro h
    split at h
    · rename_i hh
      obtain ⟨n, hn⟩ := hh.choose_spec
      simp only [Option.some.injEq] at h
      exact ⟨n, by rw [hn, h]⟩
    · cases h
  · rintro ⟨n, hn⟩
    have hh : ∃ r n, f n = some r := ⟨r, n, hn⟩
    rw [dif_pos hh]
    obtain ⟨m, hm'⟩ := hh.choose_spec
    have e1 := hm n (max n m) (Nat.le_max_left _ _) _ hn
    have e2 := hm m (max n m) (Nat.le_max_right _ _) _ hm'
    rw [e1] at e2
    simpa using e2.symm

noncomputable def den (p : CProg) (c : CCode) (E : Env) (H : CHeap) : Option (CX × Env × CHeap) := lim fun n => ev p n c E H
noncomputable def run (p : CProg) : CallF := fun f a H => lim fun n => callN p n f a H

theorem den_some {p : CProg} {c : CCode} {E : Env} {H : CHeap} {r : CX × Env × CHeap} : den p c E H = some r ↔ ∃ n, ev p n c E H = some r :=
  lim_some fun _ _ h => ev_le p h c E H
theorem run_some {p : CProg} {f : Nat} {a : List CV} {H : CHeap} {r : CV × CHeap} : run p f a H = some r ↔ ∃ n, callN p n f a H = some r :=
  lim_some fun _ _ h => callN_le p h f a H
theorem callN_run (p : CProg) (n : Nat) : (callN p n).le (run p) := fun _ _ _ r h => run_some.2 ⟨n, h⟩

theorem ext_some {α : Type} {x y : Option α} (h : ∀ r, x = some r ↔ y = some r) : x = y := by
  cases hx : x with
  | none =>
    cases hy : y with
    | none => rfl
    | some r => exact absurd ((h r).2 hy) (by rw [hx]; simp)
  | some r => exact ((h r).1 hx).symm

theorem opc_cont {p : CProg} {op : COp} {E : Env} {H : CHeap} {r : CV × CHeap} (h : opc (run p) op E H = some r) : ∃ n, opc (callN p n) op E H = some r := by
  unfold opc at *
  cases op <;> first | exact ⟨0, h⟩ | exact run_some.1 h | skip
  rename_i g args
  cases hg : E.ev g <;> simp only [hg] at h ⊢ <;> first | exact run_some.1 h | cases h

theorem evStmt_cont {p : CProg} {s : CStmt} {E : Env} {H : CHeap} {r : Env × CHeap} (h : evStmt (run p) s E H = some r) : ∃ n, evStmt (callN p n) s E H = some r := by
  unfold evStmt at *
  cases hw : wanted s.guard E <;> simp only [hw] at h ⊢
  · exact ⟨0, h⟩
  · simp only [if_true, Option.map_eq_some_iff] at h
    obtain ⟨q, hq, rfl⟩ := h
    obtain ⟨n, hn⟩ := opc_cont hq
    exact ⟨n, by simp [hn]⟩

theorem evOps_cont {p : CProg} : ∀ {l : List CStmt} {E : Env} {H : CHeap} {r : Env × CHeap}, evOps (run p) l E H = some r → ∃ n, evOps (callN p n) l E H = some r
  | [], _, _, _, h => ⟨0, h⟩
  | s :: l, E, H, r, h => by
    unfold evOps at h
    rw [Option.bind_eq_some_iff] at h
    obtain ⟨q, hq, hr⟩ := h
    obtain ⟨n, hn⟩ := evStmt_cont hq
    obtain ⟨m, hm⟩ := evOps_cont hr
    refine ⟨max n m, ?_⟩
    unfold evOps
    rw [evStmt_le (callN_le p (Nat.le_max_left n m)) s E H _ hn, Option.bind_some]
    exact evOps_le (callN_le p (Nat.le_max_right n m)) l _ _ _ hm

theorem evD_cont {p : CProg} : ∀ {l : List DStmt} {E : Env} {H : CHeap} {hs : List CHeap} {r : Env × CHeap}, evD (run p) l E H hs = some r → ∃ n, evD (callN p n) l E H hs = some r
  | [], _, _, _, _, h => ⟨0, h⟩
  | d :: l, E, H, hs, r, h => by
    unfold evD at h
    by_cases hw : wanted d.s.guard E = false
    · rw [if_pos hw] at h
      obtain ⟨n, hn⟩ := evD_cont h
      exact ⟨n, by unfold evD; rw [if_pos hw]; exact hn⟩
    · rw [if_neg hw] at h
      by_cases h3 : d.kind = 3
      · rw [if_pos h3, Option.bind_eq_some_iff] at h
        obtain ⟨q, hq, hr⟩ := h
        obtain ⟨n, hn⟩ := opc_cont hq
        obtain ⟨m, hm⟩ := evD_cont hr
        refine ⟨max n m, ?_⟩
        unfold evD
        rw [if_neg hw, if_pos h3, opc_le (callN_le p (Nat.le_max_left n m)) _ _ _ _ hn, Option.bind_some]
        exact evD_le (callN_le p (Nat.le_max_right n m)) _ _ _ _ _ hm
      · rw [if_neg h3, Option.bind_eq_some_iff] at h
        obtain ⟨q, hq, hr⟩ := h
        split at hr
        · rename_i h1
          obtain ⟨m, hm⟩ := evD_cont hr
          exact ⟨m, by unfold evD; rw [if_neg hw, if_neg h3, hq, Option.bind_some, if_pos h1]; exact hm⟩
        · cases hr

theorem den_eq (p : CProg) (c : CCode) (E : Env) (H : CHeap) : den p c E H =
    (match c with
    | .skip => some (.normal, E, H)
    | .region ops => (evOps (run p) ops E H).map fun q => (.normal, q.1, q.2)
    | .dregion ops => (evD (run p) ops E H []).map fun q => (.normal, q.1, q.2)
    | .seq a b => (den p a E H).bind fun r => match r.1 with | .normal => den p b r.2.1 r.2.2 | _ => some r
    | .cond c a b => match E.ev c with | .bool t => den p (if t then a else b) E H | _ => none
    | .block id c => (den p c E H).map fun r => (r.1.inBlock id, r.2)
    | .loop c => (den p c E H).bind fun r => match r.1 with | .normal => den p (.loop c) r.2.1 r.2.2 | _ => some r
    | .exit id => some (.exit id, E, H)
    | .ret => some (.ret, E, H)) := by
  apply ext_some
  intro r
  rw [den_some]
  have up : (∃ n, ev p n c E H = some r) ↔ ∃ n, ev p (n + 1) c E H = some r :=
    ⟨fun ⟨n, h⟩ => ⟨n, ev_le_succ p n c E H r h⟩, fun ⟨n, h⟩ => ⟨n + 1, h⟩⟩
  rw [up]
  simp only [ev_succ]
  have two : ∀ (a b : CCode) (r : CX × Env × CHeap), (∃ n, ((ev p n a E H).bind fun r => match r.1 with | .normal => ev p n b r.2.1 r.2.2 | _ => some r) = some r) ↔
      ((den p a E H).bind fun r => match r.1 with | .normal => den p b r.2.1 r.2.2 | _ => some r) = some r := by
    intro a b r
    constructor
    · rintro ⟨n, h⟩
      rw [Option.bind_eq_some_iff] at h ⊢
      obtain ⟨q, hq, hr⟩ := h
      refine ⟨q, den_some.2 ⟨n, hq⟩, ?_⟩
      cases hx : q.1 <;> simp only [hx] at hr ⊢ <;> first | exact den_some.2 ⟨n, hr⟩ | exact hr
    · intro h
      rw [Option.bind_eq_some_iff] at h
      obtain ⟨q, hq, hr⟩ := h
      obtain ⟨n, hn⟩ := den_some.1 hq
      cases hx : q.1 <;> simp only [hx] at hr
      · obtain ⟨m, hm⟩ := den_some.1 hr
        refine ⟨max n m, ?_⟩
        rw [ev_le p (Nat.le_max_left n m) _ _ _ _ hn, Option.bind_some]
        simp only [hx]
        exact ev_le p (Nat.le_max_right n m) _ _ _ _ hm
      all_goals exact ⟨n, by rw [hn, Option.bind_some]; simp only [hx]; exact hr⟩
  cases c with
  | skip => simp
  | region ops =>
    simp only [Option.map_eq_some_iff]
    constructor
    · rintro ⟨n, q, hq, rfl⟩; exact ⟨q, evOps_le (callN_run p n) _ _ _ _ hq, rfl⟩
    · rintro ⟨q, hq, rfl⟩; obtain ⟨n, hn⟩ := evOps_cont hq; exact ⟨n, q, hn, rfl⟩
  | dregion ops =>
    simp only [Option.map_eq_some_iff]
    constructor
    · rintro ⟨n, q, hq, rfl⟩; exact ⟨q, evD_le (callN_run p n) _ _ _ _ _ hq, rfl⟩
    · rintro ⟨q, hq, rfl⟩; obtain ⟨n, hn⟩ := evD_cont hq; exact ⟨n, q, hn, rfl⟩
  | seq a b => exact two a b r
  | cond c a b =>
    cases hc : E.ev c <;> simp only [hc] <;> first | exact den_some.symm | simp
  | block id c =>
    simp only [Option.map_eq_some_iff]
    constructor
    · rintro ⟨n, q, hq, rfl⟩; exact ⟨q, den_some.2 ⟨n, hq⟩, rfl⟩
    · rintro ⟨q, hq, rfl⟩; obtain ⟨n, hn⟩ := den_some.1 hq; exact ⟨n, q, hn, rfl⟩
  | loop c => exact two c (.loop c) r
  | exit id => simp
  | ret => simp

theorem run_eq {p : CProg} {f : Nat} {cf : CFunc} (hf : p f = some cf) (a : List CV) (H : CHeap) :
    run p f a H = (den p cf.body (entry a) H).bind (leave cf) := by
  apply ext_some
  intro r
  rw [run_some]
  simp only [callN, hf, Option.bind_some]
  constructor
  · rintro ⟨n, h⟩
    rw [Option.bind_eq_some_iff] at h ⊢
    obtain ⟨q, hq, hr⟩ := h
    exact ⟨q, den_some.2 ⟨n, hq⟩, hr⟩
  · intro h
    rw [Option.bind_eq_some_iff] at h
    obtain ⟨q, hq, hr⟩ := h
    obtain ⟨n, hn⟩ := den_some.1 hq
    exact ⟨n, by rw [hn]; exact hr⟩

/-! ### The heap never gets shorter -/

def LenF (F : CallF) : Prop := ∀ f a H r, F f a H = some r → H.length ≤ r.2.length

theorem storeN_len {H H' : CHeap} {b o : Nat} {vs : List CV} (h : storeN H b o vs = some H') : H'.length = H.length := by
  unfold storeN at h
  split at h
  · split at h
    · simp only [Option.some.injEq] at h; subst h; simp
    · cases h
  · cases h

theorem made_len (H : CHeap) (m : Option Blk × (Nat → CV)) : H.length ≤ (made H m).2.length := by
  unfold made
  split <;> simp

theorem appendTo_len {H : CHeap} {esz n : Nat} {s : CV} {new : List CV} {r : CV × CHeap} (h : appendTo H esz s n new = some r) : H.length ≤ r.2.length := by
  unfold appendTo at h
  split at h
  · split at h
    · simp only [Option.some.injEq] at h; subst h; exact Nat.le_refl _
    · split at h
      · simp only [Option.some.injEq] at h; subst h; simp
      · cases h
  · split at h
    · simp only [Option.some.injEq] at h; subst h; exact Nat.le_refl _
    · split at h
      · rw [Option.map_eq_some_iff] at h
        obtain ⟨H', hs, rfl⟩ := h
        exact Nat.le_of_eq (storeN_len hs).symm
      · split at h
        · rw [Option.bind_eq_some_iff] at h
          obtain ⟨old, _, h⟩ := h
          split at h
          · split at h
            · split at h
              · simp only [Option.some.injEq] at h; subst h; simp
              · cases h
            · cases h
          · simp only [Option.some.injEq] at h; subst h; simp
        · cases h
  · cases h

theorem opv_len {op : COp} {E : Env} {H : CHeap} {r : CV × CHeap} (h : opv op E H = some r) : H.length ≤ r.2.length := by
  have steady : (mkOf op E H).map (made H) = some r → H.length ≤ r.2.length := by
    intro h
    rw [Option.map_eq_some_iff] at h
    obtain ⟨m, _, rfl⟩ := h
    exact made_len H m
  cases op with
  | store n x y =>
    simp only [opv] at h
    split at h
    · split at h
      · rw [Option.map_eq_some_iff] at h
        obtain ⟨H', hs, rfl⟩ := h
        exact Nat.le_of_eq (storeN_len hs).symm
      · cases h
    · cases h
  | append n s x =>
    simp only [opv, Option.bind_eq_some_iff] at h
    obtain ⟨q, _, h⟩ := h
    exact appendTo_len h
  | copy n d s =>
    simp only [opv] at h
    split at h
    · split at h
      · simp only [Option.some.injEq] at h; subst h; exact Nat.le_refl _
      · rw [Option.bind_eq_some_iff] at h
        obtain ⟨cs, _, h⟩ := h
        rw [Option.map_eq_some_iff] at h
        obtain ⟨H', hs, rfl⟩ := h
        exact Nat.le_of_eq (storeN_len hs).symm
    all_goals first | cases h; done | (simp only [Option.some.injEq] at h; subst h; exact Nat.le_refl _)
  | clear z s =>
    simp only [opv] at h
    split at h
    · split at h
      · simp only [Option.some.injEq] at h; subst h; exact Nat.le_refl _
      · rw [Option.map_eq_some_iff] at h
        obtain ⟨H', hs, rfl⟩ := h
        exact Nat.le_of_eq (storeN_len hs).symm
    all_goals first | cases h; done | (simp only [Option.some.injEq] at h; subst h; exact Nat.le_refl _)
  | _ => exact steady h

theorem opc_len {F : CallF} (hF : LenF F) {op : COp} {E : Env} {H : CHeap} {r : CV × CHeap} (h : opc F op E H = some r) : H.length ≤ r.2.length := by
  cases op with
  | call f args => exact hF _ _ _ _ h
  | callv g args =>
    simp only [opc] at h
    split at h
    · exact hF _ _ _ _ h
    · cases h
  | _ => simp only [opc] at h; exact opv_len h

theorem evOps_len {F : CallF} (hF : LenF F) : ∀ {l : List CStmt} {E : Env} {H : CHeap} {r : Env × CHeap}, evOps F l E H = some r → H.length ≤ r.2.length
  | [], E, H, r, h => by simp only [evOps, Option.some.injEq] at h; subst h; exact Nat.le_refl _
  | s :: l, E, H, r, h => by
    simp only [evOps, Option.bind_eq_some_iff] at h
    obtain ⟨q, hq, hr⟩ := h
    refine Nat.le_trans ?_ (evOps_len hF hr)
    unfold evStmt at hq
    split at hq
    · rw [Option.map_eq_some_iff] at hq
      obtain ⟨p, hp, rfl⟩ := hq
      exact opc_len hF hp
    · simp only [Option.some.injEq] at hq; subst hq; exact Nat.le_refl _

theorem evD_len {F : CallF} (hF : LenF F) : ∀ {l : List DStmt} {E : Env} {H : CHeap} {hs : List CHeap} {r : Env × CHeap}, evD F l E H hs = some r → H.length ≤ r.2.length
  | [], E, H, hs, r, h => by simp only [evD, Option.some.injEq] at h; subst h; exact Nat.le_refl _
  | d :: l, E, H, hs, r, h => by
    unfold evD at h
    split at h
    · exact evD_len hF h
    · split at h
      · rw [Option.bind_eq_some_iff] at h
        obtain ⟨q, hq, hr⟩ := h
        exact Nat.le_trans (opc_len hF hq) (evD_len hF hr)
      · rw [Option.bind_eq_some_iff] at h
        obtain ⟨m, _, hr⟩ := h
        split at hr
        · exact Nat.le_trans (made_len H m) (evD_len hF hr)
        · cases hr

theorem ev_len (p : CProg) : ∀ (n : Nat) {c : CCode} {E : Env} {H : CHeap} {r : CX × Env × CHeap}, ev p n c E H = some r → H.length ≤ r.2.2.length
  | 0, _, _, _, _, h => by cases h
  | n + 1, c, E, H, r, h => by
    have hF : LenF (callN p n) := by
      intro f a H r h
      unfold callN at h
      rw [Option.bind_eq_some_iff] at h
      obtain ⟨cf, _, h⟩ := h
      rw [Option.bind_eq_some_iff] at h
      obtain ⟨q, hq, hl⟩ := h
      have := ev_len p n hq
      unfold leave at hl
      split at hl
      · rw [Option.map_eq_some_iff] at hl; obtain ⟨v, _, rfl⟩ := hl; exact this
      · rw [Option.map_eq_some_iff] at hl; obtain ⟨v, _, rfl⟩ := hl; exact this
      · cases hl
    rw [ev_succ] at h
    cases c with
    | skip => simp only [Option.some.injEq] at h; subst h; exact Nat.le_refl _
    | region ops => rw [Option.map_eq_some_iff] at h; obtain ⟨q, hq, rfl⟩ := h; exact evOps_len hF hq
    | dregion ops => rw [Option.map_eq_some_iff] at h; obtain ⟨q, hq, rfl⟩ := h; exact evD_len hF hq
    | seq a b =>
      rw [Option.bind_eq_some_iff] at h
      obtain ⟨q, hq, h⟩ := h
      have h1 := ev_len p n hq
      split at h
      · exact Nat.le_trans h1 (ev_len p n h)
      · simp only [Option.some.injEq] at h; subst h; exact h1
    | cond c a b =>
      dsimp only at h
      split at h
      · exact ev_len p n h
      · cases h
    | block id c =>
      rw [Option.map_eq_some_iff] at h
      obtain ⟨q, hq, rfl⟩ := h
      have := ev_len p n hq
      exact this
    | loop c =>
      rw [Option.bind_eq_some_iff] at h
      obtain ⟨q, hq, h⟩ := h
      have h1 := ev_len p n hq
      split at h
      · exact Nat.le_trans h1 (ev_len p n h)
      · simp only [Option.some.injEq] at h; subst h; exact h1
    | exit id => simp only [Option.some.injEq] at h; subst h; exact Nat.le_refl _
    | ret => simp only [Option.some.injEq] at h; subst h; exact Nat.le_refl _

theorem callN_len (p : CProg) (n : Nat) : LenF (callN p n) := by
  intro f a H r h
  unfold callN at h
  rw [Option.bind_eq_some_iff] at h
  obtain ⟨cf, _, h⟩ := h
  rw [Option.bind_eq_some_iff] at h
  obtain ⟨q, hq, hl⟩ := h
  have := ev_len p n hq
  unfold leave at hl
  split at hl
  · rw [Option.map_eq_some_iff] at hl; obtain ⟨v, _, rfl⟩ := hl; exact this
  · rw [Option.map_eq_some_iff] at hl; obtain ⟨v, _, rfl⟩ := hl; exact this
  · cases hl

end Go.Cs

/- A region that draws its order: what the compiler asks of it, and the clean machine's way through it. -/
namespace Go.Cs
open Go Go.RowKit

/-- How many changing operations there are among the first ones. -/
def cntM (l : List DStmt) (q : Nat) : Nat := ((l.take q).filter fun x => x.kind == 3).length

theorem cntM_succ {l : List DStmt} {q : Nat} {d : DStmt} (h : l[q]? = some d) : cntM l (q + 1) = cntM l q + if d.kind = 3 then 1 else 0 := by
  unfold cntM
  rw [List.take_add_one, h]
  simp only [Option.toList_some, List.filter_append, List.length_append]
  congr 1
  by_cases h3 : d.kind = 3 <;> simp [h3]

structure DFacts (P : Program) (N : Nat) (ops : Array Oper) (an : List (List Nat)) (l : List DStmt) : Prop where
  len : l.length = ops.size
  stmt : ∀ (q : Nat) (d : DStmt), l[q]? = some d → ∃ o, ops[d.no]? = some o ∧ compStmt P N ops o = some d.s
  kind : ∀ (q : Nat) (d : DStmt), l[q]? = some d → (d.kind = 0 ∨ d.kind = 1 ∨ d.kind = 3) ∧ (d.kind = 0 → kindOf d.s.op = 0)
  all : ∀ j, j < ops.size → ∃ (q : Nat) (d : DStmt), l[q]? = some d ∧ d.no = j
  inj : ∀ (q r : Nat) (d c : DStmt), l[q]? = some d → l[r]? = some c → d.no = c.no → q = r
  dst : ∀ (q r : Nat) (d c : DStmt) (t : Nat), l[q]? = some d → l[r]? = some c → c.s.dst = some t → d.s.dst = some t → q = r
  reads : ∀ (q r : Nat) (d c : DStmt) (t : Nat), l[q]? = some d → l[r]? = some c → c.s.dst = some t → t ∈ d.s.reads → r < q ∧ c.no ∈ an.getD d.no []
  chain : ∀ (q r : Nat) (d c : DStmt), l[q]? = some d → l[r]? = some c → c.kind = 3 → r < q → (d.kind = 3 ∨ cntM l r < d.low) → c.no ∈ an.getD d.no []
  before : ∀ (q r : Nat) (d c : DStmt), l[q]? = some d → l[r]? = some c → d.kind = 3 → c.kind ≠ 3 → r < q → c.no ∈ an.getD d.no []
  low : ∀ (q : Nat) (d : DStmt), l[q]? = some d → d.low ≤ cntM l q
  anc : ∀ (j i : Nat) (o : Oper), ops[j]? = some o → i ∈ an.getD j [] → ∃ e ∈ edgesOf o, e < j ∧ (i = e ∨ i ∈ an.getD e [])
  edges : ∀ (j : Nat) (o : Oper), ops[j]? = some o → ∀ e ∈ edgesOf o, e < j

theorem zipIdx_all {α : Type} {l : List α} {f : α × Nat → Bool} (h : l.zipIdx.all f = true) {i : Nat} {x : α} (hx : l[i]? = some x) : f (x, i) = true := by
  rw [List.all_eq_true] at h
  exact h _ (List.mem_iff_getElem?.2 ⟨i, by simp [List.getElem?_zipIdx, hx]⟩)

theorem dFacts {P : Program} {N : Nat} {ops : Array Oper} {ss : List CStmt} (hc : allSome (ops.toList.map (compStmt P N ops)) = some ss) {l : List DStmt} (hl : ∃ ks, l = compD ss (ancs ops.toList) ks)
    (hok : dOk ops.toList ss (ancs ops.toList) l = true) : DFacts P N ops (ancs ops.toList) l := by
  generalize han : ancs ops.toList = an at *
  unfold dOk at hok
  simp only [Bool.and_eq_true] at hok
  obtain ⟨⟨⟨⟨⟨⟨⟨hanc, hedge⟩, hlen⟩, hsl⟩, hkind⟩, hall⟩, hpair⟩, hlow⟩ := hok
  simp only [decide_eq_true_eq, Array.length_toList] at hlen hsl
  have hno : ∀ (q : Nat) (d : DStmt), l[q]? = some d → d.no < ops.size ∧ (d.kind = 0 ∨ d.kind = 1 ∨ d.kind = 3) ∧ (d.kind = 0 → kindOf d.s.op = 0) := by
    intro q d hd
    rw [List.all_eq_true] at hkind
    have := hkind d (List.mem_of_getElem? hd)
    simp only [Bool.and_eq_true, decide_eq_true_eq, Array.length_toList] at this
    refine ⟨this.1.1, by have h := this.1.2; simp only [Bool.or_eq_true, beq_iff_eq] at h; omega, fun h0 => ?_⟩
    have h2 := this.2
    rw [h0] at h2
    simpa using h2
  have hpr : ∀ (q r : Nat) (d c : DStmt), l[q]? = some d → l[r]? = some c → _ := fun q r d c hd hc => zipIdx_all (zipIdx_all hpair hd) hc
  refine ⟨hlen, fun q d hd => ?_, fun q d hd => (hno q d hd).2, fun j hj => ?_, fun q r d c hd hc' he => ?_, fun q r d c t hd hc' h1 h2 => ?_, fun q r d c t hd hc' h1 h2 => ?_, fun q r d c hd hc' h1 h2 h3 => ?_,
    fun q r d c hd hc' h1 h2 h3 => ?_, fun q d hd => ?_, fun j i o ho hi => ?_, fun j o ho e he => ?_⟩
  · obtain ⟨ks, rfl⟩ := hl
    unfold compD at hd
    rw [List.getElem?_map, Option.map_eq_some_iff] at hd
    obtain ⟨j, hj, rfl⟩ := hd
    dsimp only
    have hj2 : j < ops.size := (hno q _ (by unfold compD; rw [List.getElem?_map, hj]; rfl)).1
    have hs : ss[j]? = some (ss.getD j default) := by rw [List.getD_eq_getElem?_getD, List.getElem?_eq_getElem (by omega)]; rfl
    have hx := allSome_get hc hs
    rw [List.getElem?_map, Option.map_eq_some_iff] at hx
    obtain ⟨o, ho, hso⟩ := hx
    exact ⟨o, by simpa using ho, hso⟩
  · rw [List.all_eq_true] at hall
    have := hall j (List.mem_range.2 (by simpa using hj))
    rw [List.any_eq_true] at this
    obtain ⟨d, hd, hdj⟩ := this
    obtain ⟨q, hq⟩ := List.mem_iff_getElem?.1 hd
    simp only [Bool.and_eq_true, beq_iff_eq] at hdj
    exact ⟨q, d, hq, hdj.1⟩
  · have := hpr q r d c hd hc'
    simp only [Bool.and_eq_true] at this
    have h1 := this.1.1.1
    simp only [Bool.or_eq_true, decide_eq_true_eq, bne_iff_ne] at h1
    exact h1.resolve_right (fun h => h he)
  · have := hpr q r d c hd hc'
    simp only [Bool.and_eq_true] at this
    have h3 := this.1.1.2
    rw [h1] at h3
    simp only [Bool.and_eq_true, Bool.or_eq_true, decide_eq_true_eq, bne_iff_ne] at h3
    exact h3.1.resolve_right (fun h => h h2)
  · have := hpr q r d c hd hc'
    simp only [Bool.and_eq_true] at this
    have h3 := this.1.1.2
    rw [h1] at h3
    simp only [Bool.and_eq_true, Bool.or_eq_true, decide_eq_true_eq, Bool.not_eq_true', List.contains_iff_mem] at h3
    rcases h3.2 with h | h
    · rw [List.contains_iff_mem.2 h2] at h; cases h
    · exact h
  · have := hpr q r d c hd hc'
    simp only [Bool.and_eq_true] at this
    have h4 := this.1.2
    simp only [Bool.or_eq_true, Bool.not_eq_true', List.contains_iff_mem] at h4
    rcases h4 with h | h
    · have h5 : (c.kind == 3 && decide (r < q) && (d.kind == 3 || decide (((l.take r).filter fun x => x.kind == 3).length < d.low))) = true := by
        simp only [Bool.and_eq_true, beq_iff_eq, decide_eq_true_eq, Bool.or_eq_true]
        exact ⟨⟨h1, h2⟩, h3⟩
      rw [h5] at h; cases h
    · exact h
  · have := hpr q r d c hd hc'
    simp only [Bool.and_eq_true] at this
    have h4 := this.2
    simp only [Bool.or_eq_true, Bool.not_eq_true', List.contains_iff_mem] at h4
    rcases h4 with h | h
    · have h5 : (d.kind == 3 && c.kind != 3 && decide (r < q)) = true := by
        simp only [Bool.and_eq_true, beq_iff_eq, decide_eq_true_eq, bne_iff_ne]
        exact ⟨⟨h1, h2⟩, h3⟩
      rw [h5] at h; cases h
    · exact h
  · have := zipIdx_all hlow hd
    unfold cntM
    simpa using this
  · have h1 := zipIdx_all hanc (i := j) (x := o) (by simpa using ho)
    dsimp only at h1
    rw [List.all_eq_true] at h1
    have h2 := h1 i hi
    rw [List.any_eq_true] at h2
    obtain ⟨e, he, h3⟩ := h2
    simp only [Bool.and_eq_true, Bool.or_eq_true, decide_eq_true_eq, List.contains_iff_mem] at h3
    exact ⟨e, he, h3.1, h3.2⟩
  · have h1 := zipIdx_all hedge (i := j) (x := o) (by simpa using ho)
    dsimp only at h1
    rw [List.all_eq_true] at h1
    simpa using h1 e he

theorem load1_app {H : CHeap} {b o : Nat} {v : CV} (bs : List Blk) (h : load1 H b o = some v) : load1 (H ++ bs) b o = some v := by
  unfold load1 at *
  split at h
  · rename_i blk hb
    rw [List.getElem?_append_left (List.getElem?_eq_some_iff.1 hb).1, hb]
    exact h
  · cases h

theorem loadN_app {H : CHeap} {b o n : Nat} {v : List CV} (bs : List Blk) (h : loadN H b o n = some v) : loadN (H ++ bs) b o n = some v := by
  unfold loadN at *
  split at h
  · rename_i blk hb
    rw [List.getElem?_append_left (List.getElem?_eq_some_iff.1 hb).1, hb]
    exact h
  · cases h

theorem elems_app {H : CHeap} {n : Nat} {c : CV} {q : Nat × List CV} (bs : List Blk) (h : elems H n c = some q) : elems (H ++ bs) n c = some q := by
  unfold elems at *
  split at h
  · exact h
  · split at h
    · rename_i h0; rw [if_pos h0]; exact h
    · rename_i h0
      rw [if_neg h0]
      rw [Option.map_eq_some_iff] at h ⊢
      obtain ⟨cs, hcs, rfl⟩ := h
      exact ⟨cs, loadN_app bs hcs, rfl⟩
  · cases h

theorem appendMk_app {H : CHeap} {esz n : Nat} {s : CV} {new : List CV} {m : Option Blk × (Nat → CV)} (bs : List Blk) (h : appendMk H esz s n new = some m) : appendMk (H ++ bs) esz s n new = some m := by
  unfold appendMk at *
  split at h
  · exact h
  · split at h
    · rename_i h0; rw [if_pos h0]; exact h
    · rename_i h0
      rw [if_neg h0]
      split at h
      · rename_i hc
        rw [if_pos hc]
        rw [Option.map_eq_some_iff] at h ⊢
        obtain ⟨old, ho, rfl⟩ := h
        refine ⟨old, ?_, rfl⟩
        split at ho
        · rename_i h0; rw [if_pos h0]; exact ho
        · rename_i h0; rw [if_neg h0]; exact loadN_app bs ho
      · cases h
  · cases h

/-- A steady operation comes to the same where blocks have been added. -/
theorem mkOf_app {op : COp} {E : Env} {H : CHeap} {m : Option Blk × (Nat → CV)} (bs : List Blk) (h : mkOf op E H = some m) : mkOf op E (H ++ bs) = some m := by
  cases op with
  | load g n a =>
    simp only [mkOf] at h ⊢
    split at h
    · split at h
      · rename_i hg
        rw [if_pos hg]
        rw [Option.map_eq_some_iff] at h ⊢
        obtain ⟨cs, hcs, rfl⟩ := h
        exact ⟨cs, loadN_app bs hcs, rfl⟩
      · rename_i hg
        rw [if_neg hg]
        rw [Option.map_eq_some_iff] at h ⊢
        obtain ⟨v, hv, rfl⟩ := h
        exact ⟨v, load1_app bs hv, rfl⟩
    · cases h
  | append n s x =>
    simp only [mkOf, Option.bind_eq_some_iff] at h ⊢
    obtain ⟨q, hq, h⟩ := h
    exact ⟨q, elems_app bs hq, appendMk_app bs h⟩
  | _ => exact h

/-- An operation that looks at its operands alone. -/
theorem mkOf_pure {op : COp} (hk : kindOf op = 0) (E : Env) (H H' : CHeap) : mkOf op E H = mkOf op E H' := by
  cases op <;> first | rfl | cases hk

/-! ### The way of the clean machine -/

abbrev DSt := Env × CHeap × List CHeap

open Classical in
noncomputable def stepD (F : CallF) (d : DStmt) (s : DSt) : Option DSt :=
  if wanted d.s.guard s.1 = false then some (s.1.put d.s.dst .undef, s.2.1, if d.kind = 3 then s.2.1 :: s.2.2 else s.2.2)
  else if d.kind = 3 then (opc F d.s.op s.1 s.2.1).map fun p => (s.1.put d.s.dst p.1, p.2, s.2.1 :: s.2.2)
  else (mkOf d.s.op s.1 s.2.1).bind fun m =>
    if d.kind = 1 → ∀ H' ∈ s.2.2.take (s.2.2.length - d.low), mkOf d.s.op s.1 H' = some m then some (s.1.put d.s.dst (made s.2.1 m).1, (made s.2.1 m).2, s.2.2) else none

structure Way (F : CallF) (l : List DStmt) (st : Nat → DSt) : Prop where
  step : ∀ (q : Nat) (d : DStmt), l[q]? = some d → stepD F d (st q) = some (st (q + 1))

theorem evD_way {F : CallF} : ∀ {l : List DStmt} {E : Env} {H : CHeap} {hs : List CHeap} {r : Env × CHeap}, evD F l E H hs = some r → ∃ st, st 0 = (E, H, hs) ∧ (st l.length).1 = r.1 ∧ (st l.length).2.1 = r.2 ∧ Way F l st
  | [], E, H, hs, r, h => by
    simp only [evD, Option.some.injEq] at h
    subst h
    exact ⟨fun _ => (E, H, hs), rfl, rfl, rfl, ⟨fun q d hd => by simp at hd⟩⟩
  | d :: l, E, H, hs, r, h => by
    have key : ∃ s, stepD F d (E, H, hs) = some s ∧ evD F l s.1 s.2.1 s.2.2 = some r := by
      unfold evD at h
      unfold stepD
      dsimp only
      split at h
      · rename_i hw
        rw [if_pos hw]
        exact ⟨_, rfl, h⟩
      · rename_i hw
        rw [if_neg hw]
        split at h
        · rename_i h3
          rw [if_pos h3]
          rw [Option.bind_eq_some_iff] at h
          obtain ⟨p, hp, h⟩ := h
          exact ⟨_, by rw [hp]; rfl, h⟩
        · rename_i h3
          rw [if_neg h3]
          rw [Option.bind_eq_some_iff] at h
          obtain ⟨m, hm, h⟩ := h
          split at h
          · rename_i hck
            exact ⟨_, by rw [hm, Option.bind_some, if_pos hck], h⟩
          · cases h
    obtain ⟨s, hs1, hs2⟩ := key
    obtain ⟨st, h0, h1, h2, h3⟩ := evD_way hs2
    refine ⟨fun q => match q with | 0 => (E, H, hs) | q + 1 => st q, rfl, h1, h2, ⟨fun q c hc => ?_⟩⟩
    cases q with
    | zero =>
      simp at hc
      subst hc
      dsimp only
      rw [hs1, h0]
    | succ q =>
      simp at hc
      exact h3.step q c hc

section
variable {F : CallF} {l : List DStmt} {st : Nat → DSt}

theorem stepD_env {d : DStmt} {s s' : DSt} (h : stepD F d s = some s') : ∃ v, s'.1 = s.1.put d.s.dst v := by
  unfold stepD at h
  split at h
  · simp only [Option.some.injEq] at h; subst h; exact ⟨_, rfl⟩
  · split at h
    · rw [Option.map_eq_some_iff] at h; obtain ⟨p, _, rfl⟩ := h; exact ⟨_, rfl⟩
    · rw [Option.bind_eq_some_iff] at h
      obtain ⟨m, _, h⟩ := h
      split at h
      · simp only [Option.some.injEq] at h; subst h; exact ⟨_, rfl⟩
      · cases h

theorem stepD_len (hF : LenF F) {d : DStmt} {s s' : DSt} (h : stepD F d s = some s') : s.2.1.length ≤ s'.2.1.length := by
  unfold stepD at h
  split at h
  · simp only [Option.some.injEq] at h; subst h; exact Nat.le_refl _
  · split at h
    · rw [Option.map_eq_some_iff] at h; obtain ⟨p, hp, rfl⟩ := h; exact opc_len hF hp
    · rw [Option.bind_eq_some_iff] at h
      obtain ⟨m, _, h⟩ := h
      split at h
      · simp only [Option.some.injEq] at h; subst h; exact made_len _ _
      · cases h

theorem stepD_steady {d : DStmt} {s s' : DSt} (h : stepD F d s = some s') (h3 : d.kind ≠ 3) : s'.2.1 = s.2.1 ∨ ∃ b, s'.2.1 = s.2.1 ++ [b] := by
  unfold stepD at h
  split at h
  · simp only [Option.some.injEq] at h; subst h; exact .inl rfl
  · rw [Option.bind_eq_some_iff] at h
    obtain ⟨m, _, h⟩ := h
    split at h
    · simp only [Option.some.injEq] at h; subst h
      unfold made
      split
      · exact .inl rfl
      · exact .inr ⟨_, rfl⟩
    · cases h

theorem stepD_hs {d : DStmt} {s s' : DSt} (h : stepD F d s = some s') : s'.2.2 = if d.kind = 3 then s.2.1 :: s.2.2 else s.2.2 := by
  unfold stepD at h
  split at h
  · simp only [Option.some.injEq] at h; subst h; rfl
  · split at h
    · rename_i h3; rw [Option.map_eq_some_iff] at h; obtain ⟨p, _, rfl⟩ := h; rw [if_pos h3]
    · rename_i h3
      rw [Option.bind_eq_some_iff] at h
      obtain ⟨m, _, h⟩ := h
      split at h
      · simp only [Option.some.injEq] at h; subst h; rw [if_neg h3]
      · cases h

theorem Way.len_mono (hw : Way F l st) (hF : LenF F) {q q' : Nat} (h : q ≤ q') (hl : q' ≤ l.length) : (st q).2.1.length ≤ (st q').2.1.length := by
  induction h with
  | refl => exact Nat.le_refl _
  | @step k hk ih =>
    exact Nat.le_trans (ih (by omega)) (stepD_len hF (hw.step k _ (List.getElem?_eq_getElem (by omega))))

theorem Way.env_keep (hw : Way F l st) (hd : ∀ (q r : Nat) (d c : DStmt) (t : Nat), l[q]? = some d → l[r]? = some c → c.s.dst = some t → d.s.dst = some t → q = r) {r q : Nat} {c : DStmt} {t : Nat} (hc : l[r]? = some c) (ht : c.s.dst = some t) (h : r < q) (hl : q ≤ l.length) :
    (st q).1 t = (st (r + 1)).1 t := by
  induction h with
  | refl => rfl
  | @step k hk ih =>
    have hx : l[k]? = some (l[k]'(by omega)) := List.getElem?_eq_getElem (by omega)
    obtain ⟨v, hv⟩ := stepD_env (hw.step k _ hx)
    rw [← ih (by omega), hv]
    cases hd' : l[k].s.dst with
    | some d =>
      simp only [Env.put, Env.upd]
      rw [if_neg]
      intro e
      subst e
      have := hd k r _ c t hx hc ht hd'
      have hk' : r + 1 ≤ k := hk
      omega
    | none => rfl

theorem Way.env_init (hw : Way F l st) {q : Nat} {t : Nat} (hl : q ≤ l.length) (h : ∀ (r : Nat) (d : DStmt), l[r]? = some d → d.s.dst ≠ some t) : (st q).1 t = (st 0).1 t := by
  induction q with
  | zero => rfl
  | succ k ih =>
    have hx : l[k]? = some (l[k]'(by omega)) := List.getElem?_eq_getElem (by omega)
    obtain ⟨v, hv⟩ := stepD_env (hw.step k _ hx)
    rw [← ih (by omega), hv]
    cases hd' : l[k].s.dst with
    | some d =>
      simp only [Env.put, Env.upd]
      rw [if_neg]
      intro e
      subst e
      exact h k _ hx hd'
    | none => rfl

theorem Way.hs_len (hw : Way F l st) (h0 : (st 0).2.2 = []) {q : Nat} (hl : q ≤ l.length) : (st q).2.2.length = cntM l q := by
  induction q with
  | zero => rw [h0]; simp [cntM]
  | succ k ih =>
    have hx : l[k]? = some (l[k]'(by omega)) := List.getElem?_eq_getElem (by omega)
    rw [stepD_hs (hw.step k _ hx), cntM_succ hx, ← ih (by omega)]
    split <;> simp

theorem Way.hs_mem (hw : Way F l st) (h0 : (st 0).2.2 = []) {e q low : Nat} {d : DStmt} (hd : l[e]? = some d) (h3 : d.kind = 3) (hlow : low ≤ cntM l e) (h : e < q) (hl : q ≤ l.length) :
    (st e).2.1 ∈ (st q).2.2.take ((st q).2.2.length - low) := by
  induction h with
  | refl =>
    have hle := hw.hs_len h0 (q := e) (by omega)
    rw [stepD_hs (hw.step e _ hd), if_pos h3, List.length_cons, hle, show cntM l e + 1 - low = (cntM l e - low) + 1 from by omega, List.take_succ_cons]
    exact List.mem_cons_self
  | @step k hk ih =>
    have hx : l[k]? = some (l[k]'(by omega)) := List.getElem?_eq_getElem (by omega)
    have ih' := ih (by omega)
    rw [stepD_hs (hw.step k _ hx)]
    split
    · have hle : low ≤ (st k).2.2.length := by
        rcases Nat.lt_or_ge (st k).2.2.length low with hlt | hge
        · rw [show (st k).2.2.length - low = 0 from by omega] at ih'; simp at ih'
        · exact hge
      rw [List.length_cons, show (st k).2.2.length + 1 - low = ((st k).2.2.length - low) + 1 from by omega, List.take_succ_cons]
      exact List.mem_cons_of_mem _ ih'
    · exact ih'

/-- Within a phase blocks are only added. -/
theorem Way.grows (hw : Way F l st) {p q : Nat} (h : p ≤ q) (hl : q ≤ l.length) (hs : ∀ (r : Nat) (d : DStmt), p ≤ r → r < q → l[r]? = some d → d.kind ≠ 3) : ∃ bs, (st q).2.1 = (st p).2.1 ++ bs := by
  induction h with
  | refl => exact ⟨[], by simp⟩
  | @step k hk ih =>
    obtain ⟨bs, hb⟩ := ih (by omega) (fun r d h1 h2 => hs r d h1 (by omega))
    have hx : l[k]? = some (l[k]'(by omega)) := List.getElem?_eq_getElem (by omega)
    rcases stepD_steady (hw.step k _ hx) (hs k _ hk (by omega) hx) with h | ⟨b, h⟩
    · exact ⟨bs, by rw [h, hb]⟩
    · exact ⟨bs ++ [b], by rw [h, hb, List.append_assoc]⟩
end

/-! ### What comes ahead -/

section
variable {P : Program} {N : Nat} {ops : Array Oper} {an : List (List Nat)} {l : List DStmt}

/-- What has come up is closed. -/
def Closed (ops : Array Oper) (listed : Array Bool) : Prop := ∀ (j : Nat) (o : Oper), ops[j]? = some o → listed.getD j false = true → ∀ e ∈ edgesOf o, listed.getD e false = true

theorem anc_listed (hd : DFacts P N ops an l) {listed : Array Bool} (hc : Closed ops listed) : ∀ (j : Nat) (o : Oper), ops[j]? = some o → (∀ e ∈ edgesOf o, listed.getD e false = true) → ∀ i ∈ an.getD j [], listed.getD i false = true := by
  intro j
  induction j using Nat.strongRecOn with
  | _ j ih =>
    intro o ho he i hi
    obtain ⟨e, hee, hlt, h⟩ := hd.anc j i o ho hi
    rcases h with rfl | h
    · exact he _ hee
    · have hj : j < ops.size := (Array.getElem?_eq_some_iff.1 ho).1
      have hx : ops[e]? = some (ops[e]'(by omega)) := Array.getElem?_eq_getElem (by omega)
      exact ih e hlt _ hx (hc e _ hx (he e hee)) i h
end
end Go.Cs

/- A region that draws its order. -/
namespace Go.Cs
open Go Go.RowKit

/-- The temporaries. -/
structure ER (ν : Mu) (n : Nat) (E : Env) (a : Act) : Prop where
  defers : a.defers = []
  size : n ≤ a.tmps.size
  val : ∀ t, V ν (E t) (a.tmps.getD t undef)

theorem V_undef (ν : Mu) : V ν CV.undef undef := by simp [V, VL, undef]

section
variable {P : Program} {F : CallF} {K : Nat → Option Obj} {B : World} {L N : Nat}

theorem ER.mono {ν ν' : Mu} {E : Env} {a : Act} (h : ER ν N E a) (hm : ∀ b m, ν b = some m → ν' b = some m) : ER ν' N E a := ⟨h.defers, h.size, fun t => V.mono hm _ _ (h.val t)⟩

theorem ER.put {ν : Mu} {E : Env} {a : Act} (h : ER ν N E a) {dst : Option Nat} (hd : ∀ d, dst = some d → d < N) {v : CV} {v' : Value} (hv : V ν v v') : ER ν N (E.put dst v) (a.put dst v') := by
  cases dst with
  | none => exact h
  | some d =>
    refine ⟨h.defers, by simp only [Act.put, Array.size_setIfInBounds]; exact h.size, fun t => ?_⟩
    simp only [Act.put, Env.put, Env.upd]
    have hlt : d < a.tmps.size := Nat.lt_of_lt_of_le (hd d rfl) h.size
    by_cases ht : t = d
    · subst ht
      rw [if_pos rfl, Array.getD_eq_getD_getElem?, Array.getElem?_setIfInBounds_self_of_lt hlt]
      exact hv
    · rw [if_neg ht, Array.getD_eq_getD_getElem?, Array.getElem?_setIfInBounds_ne (Ne.symm ht), ← Array.getD_eq_getD_getElem?]
      exact h.val t

theorem V_bool {ν : Mu} {c : CV} {v : Value} (h : V ν c v) (b : Bool) : v = .bool b ↔ c = .bool b := by
  cases c <;> simp only [V] at h
  case bool b' => subst h; simp
  all_goals
    constructor
    · intro e
      first
      | (subst h; cases e; done)
      | (obtain ⟨m, _, rfl⟩ := h; cases e; done)
      | (obtain ⟨m, c', off, _, _, rfl, _⟩ := h; cases e; done)
      | (obtain ⟨vs, rfl, _⟩ := h; cases e; done)
    · intro e; cases e

theorem compStmt_inv {ops : Array Oper} {o : Oper} {s : CStmt} (h : compStmt P N ops o = some s) : ∃ g op, compGuard ops o.guard = some g ∧ compOp P o.op = some op ∧ (∀ d, o.dst = some d → d < N) ∧ s = ⟨o.dst, g, op⟩ := by
  unfold compStmt at h
  rw [Option.bind_eq_some_iff] at h
  obtain ⟨g, hg, h⟩ := h
  rw [Option.bind_eq_some_iff] at h
  obtain ⟨op, hop, h⟩ := h
  obtain ⟨hd, h⟩ := guardB_some h
  simp only [Option.some.injEq] at h
  refine ⟨g, op, hg, hop, fun d e => ?_, h.symm⟩
  rw [e] at hd
  simpa using hd

theorem wanted_V {ν : Mu} {ops : Array Oper} {g : Option (Nat × Bool)} {g' : Option (Nat × Bool)} {o : Oper} (ho : o.guard = g) (hg : compGuard ops g = some g') {E : Env} {a : Act} (hV : ∀ t b, g' = some (t, b) → V ν (E t) (a.tmps.getD t undef)) :
    Region.wanted o (yielded ops a.tmps) = wanted g' E := by
  unfold Region.wanted wanted
  rw [ho]
  cases g with
  | none => simp only [compGuard, Option.some.injEq] at hg; subst hg; rfl
  | some q =>
    obtain ⟨j, b⟩ := q
    simp only [compGuard, Option.map_eq_some_iff] at hg
    obtain ⟨t, ht, rfl⟩ := hg
    have h1 := hV t b rfl
    dsimp only
    unfold yielded
    rw [ht]
    simp only [Option.bind_some]
    cases hx : a.tmps[t]? with
    | none =>
      rw [Array.getD_eq_getD_getElem?, hx] at h1
      have h2 : ∀ b', E t ≠ .bool b' := fun b' e => by have := (V_bool h1 b').2 e; cases this
      dsimp only
      split
      · rename_i b' e; exact absurd e (h2 b')
      · rfl
    | some v =>
      rw [Array.getD_eq_getD_getElem?, hx] at h1
      simp only [Option.getD_some] at h1
      cases hE : E t with
      | bool b' =>
        have := (V_bool h1 b').2 hE
        subst this
        simp
      | _ =>
        have h2 : ∀ b', v ≠ .bool b' := fun b' e => by have := (V_bool h1 b').1 e; rw [hE] at this; cases this
        dsimp only
        split
        · rename_i b' e; simp only [Option.some.injEq] at e; exact absurd e (h2 b')
        · rfl

theorem wanted_sim {ν : Mu} {ops : Array Oper} {o : Oper} {g : Option (Nat × Bool)} (hg : compGuard ops o.guard = some g) {E : Env} {a : Act} (hR : ER ν N E a) :
    Region.wanted o (yielded ops a.tmps) = wanted g E := wanted_V rfl hg fun t _ _ => hR.val t

theorem wpOp_post {ops : Array Oper} {Q Q' : Exit → Act → World → Prop} (hq : ∀ x a w, Q x a w → Q' x a w) {i : Nat} {K K' : Act → World → Prop} (hk : ∀ a w, K a w → K' a w) {a : Act} {w : World} (h : wpOp P ops Q i K a w) : wpOp P ops Q' i K' a w := by
  unfold wpOp at *
  split
  · rename_i ho; simp only [ho] at h; exact hk _ _ h
  · rename_i o ho
    simp only [ho] at h
    split
    · rename_i hw
      rw [if_pos hw] at h
      rcases h with h | ⟨h1, a0, w0, h2⟩
      · refine .inl ?_
        unfold Oper.wp at *
        generalize (execOp a.eval o).run P w = r at *
        cases r with
        | ok n w' =>
          cases n <;> simp only [Oper.upon] at h ⊢ <;> first
            | exact hk _ _ h
            | (refine Calls.mono h fun e w'' he => ?_
               cases e with
               | returned v => exact hk _ _ he
               | panicked c => exact hq _ _ _ he
               | outgrown => obtain ⟨a0, w0, h2⟩ := he; exact ⟨a0, w0, hq _ _ _ h2⟩)
            | exact Rows.mono h fun v w'' he => hk _ _ he
        | halt x w' => cases x <;> simp only [Oper.upon] at h ⊢ <;> exact hq _ _ _ h
      · exact .inr ⟨h1, a0, w0, hq _ _ _ h2⟩
    · rename_i hw
      rw [if_neg hw] at h
      exact hk _ _ h

theorem wpOps_mono {ops : Array Oper} {Q Q' : Exit → Act → World → Prop} (hq : ∀ x a w, Q x a w → Q' x a w) : ∀ (l : List Nat) (a : Act) (w : World), wpOps P ops Q l a w → wpOps P ops Q' l a w
  | [], a, w, h => hq _ _ _ h
  | i :: l, a, w, h => by
    rw [wpOps_cons] at h ⊢
    exact wpOp_post hq (fun a w h => wpOps_mono hq l a w h) h

/-! ### The relation while operations come up in whatever order -/

def lis (listed : Array Bool) (j : Nat) : Prop := listed.getD j false = true

theorem lis_set {listed : Array Bool} {j : Nat} (hj : j < listed.size) (i : Nat) : lis (listed.setIfInBounds j true) i ↔ i = j ∨ lis listed i := by
  unfold lis
  by_cases hi : i = j
  · subst hi
    simp [hj]
  · rw [getD_set_ne false (Ne.symm hi)]
    simp [hi]

/-- A steady operation that has come up and has made a block. -/
def Mk (l : List DStmt) (st : Nat → DSt) (listed : Array Bool) (q : Nat) : Prop := ∃ d, l[q]? = some d ∧ lis listed d.no ∧ d.kind ≠ 3 ∧ (st (q + 1)).2.1.length = (st q).2.1.length + 1

structure Inv (K : Nat → Option Obj) (B : World) (L N : Nat) (l : List DStmt) (st : Nat → DSt) (ν0 : Mu) (listed : Array Bool) (a : Act) (w : World) (p e : Nat) (ν : Mu) (K' : Nat → Option Obj) : Prop where
  pe : p ≤ e
  en : e ≤ l.length
  donep : ∀ (q : Nat) (d : DStmt), l[q]? = some d → q < p → lis listed d.no
  steady : ∀ (q : Nat) (d : DStmt), p ≤ q → q < e → l[q]? = some d → d.kind ≠ 3
  endk : ∀ (d : DStmt), l[e]? = some d → d.kind = 3
  later : ∀ (q : Nat) (d : DStmt), e ≤ q → l[q]? = some d → d.kind = 3 → ¬ lis listed d.no
  sim : Sim K' B ν (st e).2.1 w
  keeps : ∀ c o, K c = some o → K' c = some o
  only : ∀ c o, K' c = some o → K c = some o ∨ ∃ q m, e ≤ q ∧ Mk l st listed q ∧ ν (st q).2.1.length = some m ∧ m.c = c
  extra : ∀ q, e ≤ q → Mk l st listed q → ∃ m blk arr T, ν (st q).2.1.length = some m ∧ (st (q + 1)).2.1[(st q).2.1.length]? = some blk ∧ blk.mode = .rw ∧ m.s = 0 ∧ m.esz = blk.esz ∧ m.size = arr.size ∧
    K' m.c = some (.cells arr T) ∧ K m.c = none ∧ B.heap.size ≤ m.c ∧ blk.cells.length ≤ arr.size ∧ ∀ (i : Nat) (x : CV), blk.cells[i]? = some x → ∃ v, arr[i]? = some v ∧ V ν x v
  apart : ∀ q q' m m', e ≤ q → e ≤ q' → q ≠ q' → Mk l st listed q → Mk l st listed q' → ν (st q).2.1.length = some m → ν (st q').2.1.length = some m' → m.c ≠ m'.c
  dom : ∀ b m, ν b = some m → b < (st p).2.1.length ∨ (∃ q, p ≤ q ∧ Mk l st listed q ∧ b = (st q).2.1.length) ∨ L ≤ b
  low : ∀ b, b < (st 0).2.1.length → ν b = ν0 b
  far : ∀ b, L ≤ b → ν b = ν0 b
  defers : a.defers = []
  size : N ≤ a.tmps.size
  wrote : ∀ (q : Nat) (d : DStmt) (t : Nat), l[q]? = some d → lis listed d.no → d.s.dst = some t → V ν ((st (q + 1)).1 t) (a.tmps.getD t undef)
  unwrote : ∀ t, (∀ (q : Nat) (d : DStmt), l[q]? = some d → d.s.dst = some t → ¬ lis listed d.no) → V ν ((st 0).1 t) (a.tmps.getD t undef)

theorem V_put {ν : Mu} {a : Act} (hN : N ≤ a.tmps.size) {dst : Option Nat} (hd : ∀ d, dst = some d → d < N) (v' : Value) (t : Nat) :
    (a.put dst v').tmps.getD t undef = if dst = some t then v' else a.tmps.getD t undef := by
  cases dst with
  | none => simp [Act.put]
  | some d =>
    simp only [Act.put]
    have hlt : d < a.tmps.size := Nat.lt_of_lt_of_le (hd d rfl) hN
    by_cases ht : d = t
    · subst ht
      rw [if_pos rfl, Array.getD_eq_getD_getElem?, Array.getElem?_setIfInBounds_self_of_lt hlt]; rfl
    · rw [if_neg (by simpa using ht), Array.getD_eq_getD_getElem?, Array.getElem?_setIfInBounds_ne ht, ← Array.getD_eq_getD_getElem?]

section
variable {ops : Array Oper} {an : List (List Nat)} {l : List DStmt} {st : Nat → DSt} {ν0 : Mu} {listed : Array Bool} {a : Act} {w : World} {p e : Nat} {ν : Mu} {K' : Nat → Option Obj} {F : CallF}

/-- The temporaries behind an operation. -/
theorem Inv.wrote_next (h : Inv K B L N l st ν0 listed a w p e ν K') (hd : DFacts P N ops an l) {q : Nat} {d : DStmt} (hq : l[q]? = some d) (hls : d.no < listed.size) (hdst : ∀ t, d.s.dst = some t → t < N) {ν' : Mu} (hm : ∀ b m, ν b = some m → ν' b = some m)
    {v : CV} {v' : Value} (hv : V ν' v v') (hst : (st (q + 1)).1 = (st q).1.put d.s.dst v) :
    (∀ (r : Nat) (c : DStmt) (t : Nat), l[r]? = some c → lis (listed.setIfInBounds d.no true) c.no → c.s.dst = some t → V ν' ((st (r + 1)).1 t) ((a.put d.s.dst v').tmps.getD t undef)) ∧
    (∀ t, (∀ (r : Nat) (c : DStmt), l[r]? = some c → c.s.dst = some t → ¬ lis (listed.setIfInBounds d.no true) c.no) → V ν' ((st 0).1 t) ((a.put d.s.dst v').tmps.getD t undef)) := by
  refine ⟨fun r c t hr hl ht => ?_, fun t ht => ?_⟩
  · rw [V_put (ν := ν) h.size hdst]
    by_cases he : d.s.dst = some t
    · rw [if_pos he]
      have : r = q := hd.dst r q c d t hr hq he ht
      subst this
      rw [hst, he]
      simpa [Env.put, Env.upd] using hv
    · rw [if_neg he]
      rcases (lis_set hls c.no).1 hl with h1 | h1
      · have : r = q := hd.inj r q c d hr hq h1
        subst this
        rw [hq] at hr
        simp only [Option.some.injEq] at hr
        subst hr
        exact absurd ht he
      · exact V.mono hm _ _ (h.wrote r c t hr h1 ht)
  · rw [V_put (ν := ν) h.size hdst]
    by_cases he : d.s.dst = some t
    · exact absurd ((lis_set hls d.no).2 (.inl rfl)) (ht q d hq he)
    · rw [if_neg he]
      exact V.mono hm _ _ (h.unwrote t fun r c hr hc hl => ht r c hr hc ((lis_set hls c.no).2 (.inr hl)))

/-- The operands of an operation that may come up. -/
theorem Inv.reads (h : Inv K B L N l st ν0 listed a w p e ν K') (hd : DFacts P N ops an l) (hw : Way F l st) (hcl : Closed ops listed) {q : Nat} {d : DStmt} (hq : l[q]? = some d) {o : Oper} (ho : ops[d.no]? = some o)
    (hr : ∀ i ∈ edgesOf o, lis listed i) : ∀ t ∈ d.s.reads, V ν ((st q).1 t) (a.tmps.getD t undef) := by
  intro t ht
  have hql : q < l.length := (List.getElem?_eq_some_iff.1 hq).1
  by_cases hx : ∃ (r : Nat) (c : DStmt), l[r]? = some c ∧ c.s.dst = some t
  · obtain ⟨r, c, hrc, hc⟩ := hx
    obtain ⟨hlt, han⟩ := hd.reads q r d c t hq hrc hc ht
    have hl := anc_listed hd hcl d.no o ho hr c.no han
    rw [hw.env_keep hd.dst hrc hc hlt (by omega)]
    exact h.wrote r c t hrc hl hc
  · rw [hw.env_init (by omega) fun r c hrc hc => hx ⟨r, c, hrc, hc⟩]
    exact h.unwrote t fun r c hrc hc => absurd ⟨r, c, hrc, hc⟩ hx

theorem Sim.fill {μ : Mu} {H : CHeap} (h : Sim K B μ H w) {b : Nat} {k : Blk} (hb : H[b]? = some k) (hk : k.mode = .rw) (hμ : μ b = none) {w' : World} {arr : Array Value} {T : TypeId} (hh : w'.heap = w.heap.push (.cells arr T)) (hs : Streams w w')
    (hl : k.cells.length ≤ arr.size) (hv : ∀ (i : Nat) (x : CV), k.cells[i]? = some x → ∃ v, arr[i]? = some v ∧ V μ x v) :
    Sim K B (μ.set b ⟨w.heap.size, 0, k.esz, arr.size⟩) H w' := by
  have hmono : ∀ b' m, μ b' = some m → (μ.set b ⟨w.heap.size, 0, k.esz, arr.size⟩) b' = some m := by
    intro b' m hm
    have : b' ≠ b := fun e => by rw [e, hμ] at hm; cases hm
    rw [Mu.set_ne _ _ this]; exact hm
  have old : ∀ {c : Nat}, c < w.heap.size → w'.heap[c]? = w.heap[c]? := fun {c} hc => by rw [hh]; exact heap_alloc_old w (.cells arr T) _ hc
  have hnew : w'.heap[w.heap.size]? = some (.cells arr T) := by rw [hh]; exact heap_alloc_new w _
  have lt : ∀ {b' : Nat} {k' : Blk} {m' : Tgt}, H[b']? = some k' → k'.mode ≠ .dead → μ b' = some m' → m'.c < w.heap.size := by
    intro b' k' m' h1 h2 h3
    obtain ⟨_, _, _, hw, _⟩ := h.blk b' k' m' h1 h2 h3
    exact (Array.getElem?_eq_some_iff.1 hw).1
  refine ⟨?_, fun c o hc => ?_, fun b' k' m' hb' hd hm => ?_, fun b1 b2 k1 k2 m1 m2 h1 h2 r1 r2 hne e1 e2 => ?_⟩
  · exact h.base.trans ⟨hs.os, hs.tape, hs.output, by rw [hh]; simp, fun q hq => old (Nat.lt_of_lt_of_le hq h.base.size)⟩
  · have := h.kept c o hc
    rw [old (Array.getElem?_eq_some_iff.1 this).1]; exact this
  · by_cases hbb : b' = b
    · subst hbb
      rw [Mu.set_self] at hm
      simp only [Option.some.injEq] at hm
      subst hm
      rw [hb] at hb'
      simp only [Option.some.injEq] at hb'
      subst hb'
      refine ⟨arr, T, (0, 0), hnew, fun i x hx => ?_, fun _ => ⟨rfl, rfl, by simpa using hl, rfl, h.base.size, h.free⟩, fun e => by rw [hk] at e; cases e⟩
      obtain ⟨v, hv1, hv2⟩ := hv i x hx
      exact ⟨v, by simpa using hv1, V.mono hmono _ _ hv2⟩
    · rw [Mu.set_ne _ _ hbb] at hm
      obtain ⟨a, T', fz, hw, hc, hr⟩ := h.blk b' k' m' hb' hd hm
      exact ⟨a, T', fz, by rw [old (lt hb' hd hm)]; exact hw, fun i x hx => let ⟨v, h1, h2⟩ := hc i x hx; ⟨v, h1, V.mono hmono _ _ h2⟩, hr⟩
  · have d1 : k1.mode ≠ .dead := by rw [r1]; decide
    by_cases hb1 : b1 = b
    · have hb2 : b2 ≠ b := fun e => hne (hb1.trans e.symm)
      rw [hb1, Mu.set_self] at e1
      simp only [Option.some.injEq] at e1
      subst e1
      rw [Mu.set_ne _ _ hb2] at e2
      have := lt h2 r2 e2
      dsimp only
      omega
    · rw [Mu.set_ne _ _ hb1] at e1
      by_cases hb2 : b2 = b
      · rw [hb2, Mu.set_self] at e2
        simp only [Option.some.injEq] at e2
        subst e2
        have := lt h1 d1 e1
        dsimp only
        omega
      · rw [Mu.set_ne _ _ hb2] at e2
        exact h.inj b1 b2 k1 k2 m1 m2 h1 h2 r1 r2 hne e1 e2

/-- Blocks that lie there already are joined to the clean machine's heap. -/
theorem Sim.join {μ : Mu} {H : CHeap} (h : Sim K' B μ H w) {ν : Mu} (hsame : ∀ b, b < H.length → ν b = μ b) (hmono : ∀ b m, μ b = some m → ν b = some m) {bs : List Blk}
    (hex : ∀ (b : Nat) (blk : Blk) (m : Tgt), H.length ≤ b → (H ++ bs)[b]? = some blk → ν b = some m → blk.mode = .rw ∧ m.s = 0 ∧ m.esz = blk.esz ∧ ∃ arr T, m.size = arr.size ∧ K' m.c = some (.cells arr T) ∧ B.heap.size ≤ m.c ∧
      blk.cells.length ≤ arr.size ∧ ∀ (i : Nat) (x : CV), blk.cells[i]? = some x → ∃ v, arr[i]? = some v ∧ V ν x v)
    (hinj : ∀ b1 b2 m1 m2, H.length ≤ b1 → H.length ≤ b2 → b1 < (H ++ bs).length → b2 < (H ++ bs).length → b1 ≠ b2 → ν b1 = some m1 → ν b2 = some m2 → m1.c ≠ m2.c)
    {K2 : Nat → Option Obj} (hK : ∀ c o, K2 c = some o → K' c = some o) (hK2 : ∀ b m, H.length ≤ b → b < (H ++ bs).length → ν b = some m → K2 m.c = none) : Sim K2 B ν (H ++ bs) w := by
  have hKn : ∀ c, K' c = none → K2 c = none := by
    intro c hc
    cases h2 : K2 c with
    | none => rfl
    | some o => rw [hK c o h2] at hc; cases hc
  have lt : ∀ {b : Nat} {k : Blk}, (H ++ bs)[b]? = some k → b < (H ++ bs).length := fun e => (List.getElem?_eq_some_iff.1 e).1
  have oldb : ∀ {b : Nat}, b < H.length → (H ++ bs)[b]? = H[b]? := fun hb => List.getElem?_append_left hb
  refine ⟨h.base, fun c o hc => h.kept c o (hK c o hc), fun b k m hb hd hm => ?_, fun b1 b2 k1 k2 m1 m2 h1 h2 r1 r2 hne e1 e2 => ?_⟩
  · rcases Nat.lt_or_ge b H.length with hlt | hge
    · rw [oldb hlt] at hb
      rw [hsame b hlt] at hm
      obtain ⟨arr, T, fz, hw, hc, hr, hro⟩ := h.blk b k m hb hd hm
      refine ⟨arr, T, fz, hw, fun i x hx => let ⟨v, h1, h2⟩ := hc i x hx; ⟨v, h1, V.mono hmono _ _ h2⟩, fun e => ?_, hro⟩
      obtain ⟨c1, c2, c3, c4, c5, c6⟩ := hr e
      exact ⟨c1, c2, c3, c4, c5, hKn _ c6⟩
    · obtain ⟨h1, h2, h3, arr, T, h4, h5, h6, h7, h8⟩ := hex b k m hge hb hm
      refine ⟨arr, T, (0, 0), h.kept _ _ h5, fun i x hx => ?_, fun _ => ⟨h3, h4.symm, by omega, rfl, h6, hK2 b m hge (lt hb) hm⟩, fun e => by rw [h1] at e; cases e⟩
      rw [h2, Nat.zero_add]
      exact h8 i x hx
  · rcases Nat.lt_or_ge b1 H.length with hl1 | hg1 <;> rcases Nat.lt_or_ge b2 H.length with hl2 | hg2
    · rw [oldb hl1] at h1; rw [oldb hl2] at h2
      rw [hsame _ hl1] at e1; rw [hsame _ hl2] at e2
      exact h.inj b1 b2 k1 k2 m1 m2 h1 h2 r1 r2 hne e1 e2
    · rw [oldb hl1] at h1
      rw [hsame _ hl1] at e1
      obtain ⟨_, _, _, _, _, hr, _⟩ := h.blk b1 k1 m1 h1 (by rw [r1]; decide) e1
      have hn := (hr r1).2.2.2.2.2
      obtain ⟨_, _, _, arr, T, _, h5, _⟩ := hex b2 k2 m2 hg2 h2 e2
      intro e; rw [e, h5] at hn; cases hn
    · rw [oldb hl2] at h2
      rw [hsame _ hl2] at e2
      obtain ⟨_, _, _, _, _, hr, hro⟩ := h.blk b2 k2 m2 h2 r2 e2
      obtain ⟨_, _, _, arr, T, _, h5, h6, _⟩ := hex b1 k1 m1 hg1 h1 e1
      intro e
      cases hmd : k2.mode with
      | rw => have hn := (hr hmd).2.2.2.2.2; rw [← e, h5] at hn; cases hn
      | ro => have := hro hmd; omega
      | dead => exact r2 hmd
    · exact hinj b1 b2 m1 m2 hg1 hg2 (lt h1) (lt h2) hne e1 e2

theorem Way.apart (hw : Way F l st) (hLF : LenF F) {q q' : Nat} (h1 : Mk l st listed q) (hle : q' ≤ l.length) (h : q < q') : (st q).2.1.length < (st q').2.1.length := by
  obtain ⟨d, hd, _, _, hlen⟩ := h1
  have := hw.len_mono hLF (show q + 1 ≤ q' from h) hle
  omega

theorem Mk.lt {q : Nat} (h : Mk l st listed q) : q < l.length := by
  obtain ⟨d, hd, _⟩ := h
  exact (List.getElem?_eq_some_iff.1 hd).1

theorem Mk.up {q : Nat} (h : Mk l st listed q) {d : DStmt} (hd : l[q]? = some d) : lis listed d.no := by
  obtain ⟨d', hd', hl, _⟩ := h
  rw [hd] at hd'
  simp only [Option.some.injEq] at hd'
  subst hd'
  exact hl

theorem Mk.inj (hw : Way F l st) (hLF : LenF F) {q q' : Nat} (h1 : Mk l st listed q) (h2 : Mk l st listed q') (h : (st q).2.1.length = (st q').2.1.length) : q = q' := by
  rcases Nat.lt_trichotomy q q' with h' | h' | h'
  · have := Way.apart hw hLF h1 (Nat.le_of_lt h2.lt) h'; omega
  · exact h'
  · have := Way.apart hw hLF h2 (Nat.le_of_lt h1.lt) h'; omega

/-- A steady operation may come up. -/
theorem Inv.step_steady (h : Inv K B L N l st ν0 listed a w p e ν K') (hd : DFacts P N ops an l) (hw : Way F l st) (hLF : LenF F) (hcl : Closed ops listed) (h0 : (st 0).2.2 = []) (hend : (st l.length).2.1.length ≤ L)
    {q : Nat} {d : DStmt} (hq : l[q]? = some d) (hk : d.kind ≠ 3) (hnl : ¬ lis listed d.no) (hls : d.no < listed.size) {o : Oper} (ho : ops[d.no]? = some o) (hr : ∀ i ∈ edgesOf o, lis listed i) {Q : Exit → Act → World → Prop} :
    wpOp P ops Q d.no (fun a' w' => ∃ ν' K2, Inv K B L N l st ν0 (listed.setIfInBounds d.no true) a' w' p e ν' K2) a w := by
  have hql : q < l.length := (List.getElem?_eq_some_iff.1 hq).1
  have hpq : p ≤ q := Nat.le_of_not_lt fun hlt => hnl (h.donep q d hq hlt)
  have hreads := h.reads hd hw hcl hq ho hr
  obtain ⟨o', ho', hcs⟩ := hd.stmt q d hq
  rw [ho] at ho'
  simp only [Option.some.injEq] at ho'
  subst ho'
  obtain ⟨g, op, hg, hop, hdN, hs⟩ := compStmt_inv hcs
  have hdst : d.s.dst = o.dst := by rw [hs]
  have hgd : d.s.guard = g := by rw [hs]
  have hopd : d.s.op = op := by rw [hs]
  have hdN' : ∀ t, d.s.dst = some t → t < N := fun t ht => hdN t (by rw [← hdst]; exact ht)
  have hstep := hw.step q d hq
  unfold stepD at hstep
  have hwant : Region.wanted o (yielded ops a.tmps) = wanted d.s.guard (st q).1 := by
    rw [hgd]
    refine wanted_V rfl hg fun t b hgt => hreads t ?_
    unfold CStmt.reads
    rw [hgd, hgt]
    simp
  unfold wpOp
  simp only [ho]
  rw [hwant]
  have hset := lis_set hls
  -- what of the blocks is as before
  have mkold : ∀ {r : Nat}, Mk l st listed r → Mk l st (listed.setIfInBounds d.no true) r := fun {r} ⟨c, h1, h2, h3, h4⟩ => ⟨c, h1, (hset c.no).2 (.inr h2), h3, h4⟩
  have mknew : ∀ {r : Nat}, Mk l st (listed.setIfInBounds d.no true) r → Mk l st listed r ∨ r = q := fun {r} ⟨c, h1, h2, h3, h4⟩ => by
    rcases (hset c.no).1 h2 with h5 | h5
    · exact .inr (hd.inj r q c d h1 hq h5)
    · exact .inl ⟨c, h1, h5, h3, h4⟩
  -- where no block is made
  have plain : ∀ (v : CV) (v' : Value) (w' : World), (st (q + 1)).1 = (st q).1.put d.s.dst v → (st (q + 1)).2.1.length ≠ (st q).2.1.length + 1 → V ν v v' → Sim K' B ν (st e).2.1 w' →
      Inv K B L N l st ν0 (listed.setIfInBounds d.no true) (a.put d.s.dst v') w' p e ν K' := by
    intro v v' w' hst hlen hv hS
    obtain ⟨w1, w2⟩ := h.wrote_next hd hq hls hdN' (ν' := ν) (fun _ _ h => h) hv hst
    have mk : ∀ {r : Nat}, Mk l st (listed.setIfInBounds d.no true) r → Mk l st listed r := fun {r} hm => by
      rcases mknew hm with h1 | h1
      · exact h1
      · subst h1; obtain ⟨_, _, _, _, h4⟩ := hm; exact absurd h4 hlen
    refine ⟨h.pe, h.en, fun r c hr hlt => (hset c.no).2 (.inr (h.donep r c hr hlt)), h.steady, h.endk, fun r c hge hr hk3 hl => ?_, hS, h.keeps, fun c x hx => ?_, fun r hge hm => h.extra r hge (mk hm), fun r r' m m' a1 a2 a3 a4 a5 => h.apart r r' m m' a1 a2 a3 (mk a4) (mk a5), fun b m hb => ?_, h.low, h.far, ?_, ?_, w1, w2⟩
    · rcases (hset c.no).1 hl with h1 | h1
      · have := hd.inj r q c d hr hq h1
        subst this
        rw [hq] at hr
        simp only [Option.some.injEq] at hr
        subst hr
        exact hk hk3
      · exact h.later r c hge hr hk3 h1
    · rcases h.only c x hx with h1 | ⟨r, m, h1, h2, h3, h4⟩
      · exact .inl h1
      · exact .inr ⟨r, m, h1, mkold h2, h3, h4⟩
    · rcases h.dom b m hb with h1 | ⟨r, h1, h2, h3⟩ | h1
      · exact .inl h1
      · exact .inr (.inl ⟨r, h1, mkold h2, h3⟩)
      · exact .inr (.inr h1)
    · cases hdd : d.s.dst <;> exact h.defers
    · cases hdd : d.s.dst with
      | none => exact h.size
      | some t => simp only [Act.put, Array.size_setIfInBounds]; exact h.size
  cases hwd : wanted d.s.guard (st q).1 with
  | false =>
    rw [if_pos hwd] at hstep
    simp only [Option.some.injEq] at hstep
    simp only [Bool.false_eq_true, if_false]
    rw [← hdst]
    exact ⟨ν, K', plain .undef undef w (by rw [← hstep]) (by rw [← hstep]; simp) (V_undef ν) h.sim⟩
  | true =>
    rw [if_neg (by rw [hwd]; simp), if_neg hk, Option.bind_eq_some_iff] at hstep
    obtain ⟨m, hm, hstep⟩ := hstep
    split at hstep
    · rename_i hck
      simp only [Option.some.injEq] at hstep
      simp only [if_true]
      -- at the heap at this phase's end it comes to the same
      have hme : mkOf d.s.op (st q).1 (st e).2.1 = some m := by
        rcases Nat.lt_or_ge q e with hlt | hge
        · obtain ⟨bs, hb⟩ := hw.grows (Nat.le_of_lt hlt) h.en (fun r c h1 h2 h3 => h.steady r c (by omega) h2 h3)
          rw [hb]
          exact mkOf_app bs hm
        · rcases (hd.kind q d hq).1 with h1 | h1 | h1
          · rw [mkOf_pure ((hd.kind q d hq).2 h1) (st q).1 (st e).2.1 (st q).2.1]; exact hm
          · have hel : e < l.length := by omega
            have hle : l[e]? = some (l[e]'hel) := List.getElem?_eq_getElem hel
            have hk3 := h.endk _ hle
            have hne : e ≠ q := fun heq => by
              subst heq
              rw [hq] at hle
              simp only [Option.some.injEq] at hle
              rw [← hle] at hk3
              exact hk hk3
            have hlow : d.low ≤ cntM l e := by
              refine Nat.le_of_not_lt fun hlt => ?_
              have han := hd.chain q e d _ hq hle hk3 (by omega) (.inr hlt)
              exact h.later e _ (Nat.le_refl _) hle hk3 (anc_listed hd hcl d.no o ho hr _ han)
            exact hck h1 _ (hw.hs_mem h0 hle hk3 hlow (by omega) (by omega))
          · exact absurd h1 hk
      rw [hopd] at hme
      have hE : ∀ t ∈ op.tmps, V ν ((st q).1 t) (a.tmps.getD t undef) := fun t ht => hreads t (by unfold CStmt.reads; rw [hopd]; simp [ht])
      obtain ⟨v', w', hrun, hstr, hres⟩ := mk_sim (P := P) h.sim hop hE hme
      refine .inl ?_
      unfold Oper.wp
      rw [hrun, Oper.upon_value, ← hdst]
      show ∃ ν' K2, Inv K B L N l st ν0 (listed.setIfInBounds d.no true) (a.put d.s.dst v') w' p e ν' K2
      obtain ⟨ob, f⟩ := m
      cases ob with
      | none =>
        obtain ⟨hwh, hv⟩ := hres
        exact ⟨ν, K', plain (f (st q).2.1.length) v' w' (by rw [← hstep]; rfl) (by rw [← hstep]; simp [made]) (hv _) (h.sim.same hwh hstr.os hstr.tape hstr.output)⟩
      | some k =>
        obtain ⟨hkm, arr, T, hwh, hlc, hvc, hval⟩ := hres
        have hst2 : (st (q + 1)).2.1 = (st q).2.1 ++ [k] := by rw [← hstep]; rfl
        have hst1 : (st (q + 1)).1 = (st q).1.put d.s.dst (f (st q).2.1.length) := by rw [← hstep]; rfl
        have hlen1 : (st (q + 1)).2.1.length = (st q).2.1.length + 1 := by rw [hst2]; simp
        have hq1L : (st q).2.1.length < L := by
          have := hw.len_mono hLF (show q + 1 ≤ l.length from hql) (Nat.le_refl _)
          omega
        have hplen : (st p).2.1.length ≤ (st q).2.1.length := hw.len_mono hLF hpq (by omega)
        have hfree : ν (st q).2.1.length = none := by
          cases hb : ν (st q).2.1.length with
          | none => rfl
          | some mm =>
            rcases h.dom _ mm hb with h1 | ⟨r, h1, h2, h3⟩ | h1
            · omega
            · have hrl := h2.lt
              rcases Nat.lt_trichotomy r q with h4 | h4 | h4
              · have := Way.apart hw hLF h2 (by omega) h4; omega
              · subst h4; exact absurd (h2.up hq) hnl
              · have := hw.len_mono hLF (show q + 1 ≤ r from h4) (by omega); omega
            · omega
        generalize hν' : ν.set (st q).2.1.length ⟨w.heap.size, 0, k.esz, arr.size⟩ = ν'
        have hmono : ∀ b mm, ν b = some mm → ν' b = some mm := by
          intro b mm hb
          have : b ≠ (st q).2.1.length := fun e' => by rw [e', hfree] at hb; cases hb
          rw [← hν', Mu.set_ne _ _ this]; exact hb
        have hself : ν' (st q).2.1.length = some ⟨w.heap.size, 0, k.esz, arr.size⟩ := by rw [← hν']; exact Mu.set_self _ _ _
        have hother : ∀ b, b ≠ (st q).2.1.length → ν' b = ν b := fun b hb => by rw [← hν']; exact Mu.set_ne _ _ hb
        have hvv := hval ν' (st q).2.1.length hmono hself
        obtain ⟨w1, w2⟩ := h.wrote_next hd hq hls hdN' hmono hvv hst1
        have hmkq : Mk l st (listed.setIfInBounds d.no true) q := ⟨d, hq, (hset d.no).2 (.inl rfl), hk, hlen1⟩
        have hKfree := h.sim.free
        have hne : ∀ {r : Nat}, Mk l st listed r → (st r).2.1.length ≠ (st q).2.1.length := fun {r} hmr he => by
          have := Mk.inj hw hLF (mkold hmr) hmkq he
          subst this
          exact hnl (hmr.up hq)
        have common : ∀ K2, Sim K2 B ν' (st e).2.1 w' → (∀ c x, K c = some x → K2 c = some x) →
            (∀ c x, K2 c = some x → K c = some x ∨ ∃ r mm, e ≤ r ∧ Mk l st (listed.setIfInBounds d.no true) r ∧ ν' (st r).2.1.length = some mm ∧ mm.c = c) →
            (∀ c x, K' c = some x → K2 c = some x) →
            (e ≤ q → K2 w.heap.size = some (.cells arr T) ∧ K w.heap.size = none) →
            Inv K B L N l st ν0 (listed.setIfInBounds d.no true) (a.put d.s.dst v') w' p e ν' K2 := by
          intro K2 hS2 hk1 hk2 hk3 hk4
          refine ⟨h.pe, h.en, fun r c hr hlt => (hset c.no).2 (.inr (h.donep r c hr hlt)), h.steady, h.endk, fun r c hge hr hk3 hl => ?_, hS2, hk1, hk2, fun r hge hm => ?_, fun r r' m1 m2 a1 a2 a3 a4 a5 a6 a7 => ?_, fun b mm hb => ?_, fun b hb => ?_, fun b hb => ?_, ?_, ?_, w1, w2⟩
          · rcases (hset c.no).1 hl with h1 | h1
            · have := hd.inj r q c d hr hq h1
              subst this
              rw [hq] at hr
              simp only [Option.some.injEq] at hr
              subst hr
              exact hk hk3
            · exact h.later r c hge hr hk3 h1
          · rcases mknew hm with h1 | h1
            · obtain ⟨mm, blk, arr', T', c1, c2, c3, c4, c5, c6, c7, c8, c9, c10, c11⟩ := h.extra r hge h1
              exact ⟨mm, blk, arr', T', hmono _ _ c1, c2, c3, c4, c5, c6, hk3 _ _ c7, c8, c9, c10, fun i x hx => let ⟨v, g1, g2⟩ := c11 i x hx; ⟨v, g1, V.mono hmono _ _ g2⟩⟩
            · subst h1
              refine ⟨_, k, arr, T, hself, by rw [hst2, List.getElem?_concat_length], hkm, rfl, rfl, rfl, (hk4 hge).1, (hk4 hge).2, h.sim.base.size, hlc, fun i x hx => let ⟨v, g1, g2⟩ := hvc i x hx; ⟨v, g1, V.mono hmono _ _ g2⟩⟩
          · have old : ∀ {r : Nat} {mm : Tgt}, e ≤ r → Mk l st listed r → ν' (st r).2.1.length = some mm → mm.c < w.heap.size := by
              intro r mm hge hmk hm'
              rw [hother _ (hne hmk)] at hm'
              obtain ⟨m3, blk, arr', T', c1, _, _, _, _, _, c7, _⟩ := h.extra r hge hmk
              rw [c1] at hm'
              simp only [Option.some.injEq] at hm'
              subst hm'
              exact (Array.getElem?_eq_some_iff.1 (h.sim.kept _ _ c7)).1
            rcases mknew a4 with h1 | h1 <;> rcases mknew a5 with h2 | h2
            · rw [hother _ (hne h1)] at a6
              rw [hother _ (hne h2)] at a7
              exact h.apart r r' m1 m2 a1 a2 a3 h1 h2 a6 a7
            · subst h2
              rw [hself] at a7
              simp only [Option.some.injEq] at a7
              subst a7
              have := old a1 h1 a6
              dsimp only
              omega
            · subst h1
              rw [hself] at a6
              simp only [Option.some.injEq] at a6
              subst a6
              have := old a2 h2 a7
              dsimp only
              omega
            · exact absurd (h1.trans h2.symm) a3
          · by_cases hbq : b = (st q).2.1.length
            · exact .inr (.inl ⟨q, hpq, hmkq, hbq⟩)
            · rw [hother b hbq] at hb
              rcases h.dom b mm hb with h1 | ⟨r, h1, h2, h3⟩ | h1
              · exact .inl h1
              · exact .inr (.inl ⟨r, h1, mkold h2, h3⟩)
              · exact .inr (.inr h1)
          · have := hw.len_mono hLF (Nat.zero_le q) (by omega)
            rw [hother b (by omega)]; exact h.low b hb
          · rw [hother b (by omega)]; exact h.far b hb
          · cases hdd : d.s.dst <;> exact h.defers
          · cases hdd : d.s.dst with
            | none => exact h.size
            | some t => simp only [Act.put, Array.size_setIfInBounds]; exact h.size
        rcases Nat.lt_or_ge q e with hlt | hge
        · obtain ⟨bs, hb⟩ := hw.grows (show q + 1 ≤ e from hlt) h.en (fun r c h1 h2 h3 => h.steady r c (by omega) h2 h3)
          have hblk : (st e).2.1[(st q).2.1.length]? = some k := by
            rw [hb, hst2, List.append_assoc, List.getElem?_append_right (Nat.le_refl _)]
            simp
          have hS2 := h.sim.fill hblk hkm hfree hwh hstr hlc hvc
          rw [hν'] at hS2
          refine ⟨ν', K', common K' hS2 h.keeps (fun c x hx => ?_) (fun _ _ h => h) (fun hge => by omega)⟩
          rcases h.only c x hx with h1 | ⟨r, mm, h1, h2, h3, h4⟩
          · exact .inl h1
          · exact .inr ⟨r, mm, h1, mkold h2, hmono _ _ h3, h4⟩
        · have hS1 := (h.sim.alloc (.cells arr T)).same (w' := w') hwh hstr.os hstr.tape hstr.output
          have hel : (st e).2.1.length ≤ (st q).2.1.length := hw.len_mono hLF hge (by omega)
          have hS2 := hS1.congr (ν := ν') (fun b hb => hother b (by omega)) hmono
          refine ⟨ν', _, common _ hS2 (fun c x hx => ?_) (fun c x hx => ?_) (fun c x hx => ?_) (fun _ => ⟨by simp, ?_⟩)⟩
          · have h1 := h.keeps c x hx
            have : c ≠ w.heap.size := fun e' => by rw [e', hKfree] at h1; cases h1
            rw [if_neg this]; exact h1
          · split at hx
            · rename_i hc
              exact .inr ⟨q, _, hge, hmkq, hself, hc.symm⟩
            · rcases h.only c x hx with h1 | ⟨r, mm, h1, h2, h3, h4⟩
              · exact .inl h1
              · exact .inr ⟨r, mm, h1, mkold h2, hmono _ _ h3, h4⟩
          · have : c ≠ w.heap.size := fun e' => by rw [e', hKfree] at hx; cases hx
            rw [if_neg this]; exact hx
          · cases hK : K w.heap.size with
            | none => rfl
            | some x => have := h.keeps _ _ hK; rw [hKfree] at this; cases this
    · cases hstep

/-- The next changing operation. -/
theorem next_change (l : List DStmt) (p : Nat) (hp : p ≤ l.length) : ∃ e, p ≤ e ∧ e ≤ l.length ∧ (∀ (q : Nat) (d : DStmt), p ≤ q → q < e → l[q]? = some d → d.kind ≠ 3) ∧ ∀ (d : DStmt), l[e]? = some d → d.kind = 3 := by
  obtain ⟨n, hn⟩ : ∃ n, n = l.length - p := ⟨_, rfl⟩
  induction n generalizing p with
  | zero =>
    have : p = l.length := by omega
    exact ⟨p, Nat.le_refl _, hp, fun q d h1 h2 => by omega, fun d hd => by rw [this, List.getElem?_eq_none (Nat.le_refl _)] at hd; cases hd⟩
  | succ n ih =>
    have hlt : p < l.length := by omega
    have hx : l[p]? = some (l[p]'hlt) := List.getElem?_eq_getElem hlt
    by_cases h3 : (l[p]'hlt).kind = 3
    · exact ⟨p, Nat.le_refl _, hp, fun q d h1 h2 => by omega, fun d hd => by rw [hx] at hd; simp only [Option.some.injEq] at hd; rw [← hd]; exact h3⟩
    · obtain ⟨e, h1, h2, h4, h5⟩ := ih (p + 1) hlt (by omega)
      refine ⟨e, by omega, h2, fun q d g1 g2 g3 => ?_, h5⟩
      rcases Nat.eq_or_lt_of_le g1 with heq | hgt
      · subst heq; rw [hx] at g3; simp only [Option.some.injEq] at g3; rw [← g3]; exact h3
      · exact h4 q d hgt g2 g3

/-- A changing operation may come up: the clean machine goes on to the end of the next phase. -/
theorem Inv.step_change (h : Inv K B L N l st ν0 listed a w p e ν K') (hd : DFacts P N ops an l) (hw : Way F l st) (hF : SimF P F) (hLF : LenF F) (hcl : Closed ops listed) (hend : (st l.length).2.1.length ≤ L)
    {q : Nat} {d : DStmt} (hq : l[q]? = some d) (hk : d.kind = 3) (hnl : ¬ lis listed d.no) (hls : d.no < listed.size) {o : Oper} (ho : ops[d.no]? = some o) (hed : ∀ i ∈ edgesOf o, lis listed i) {Q : Exit → Act → World → Prop} :
    wpOp P ops Q d.no (fun a' w' => ∃ p' e' ν' K2, Inv K B L N l st ν0 (listed.setIfInBounds d.no true) a' w' p' e' ν' K2) a w := by
  have hql : q < l.length := (List.getElem?_eq_some_iff.1 hq).1
  have hpq : p ≤ q := Nat.le_of_not_lt fun hlt => hnl (h.donep q d hq hlt)
  have heq : e = q := by
    rcases Nat.lt_trichotomy e q with hlt | heq | hgt
    · have hle : l[e]? = some (l[e]'(by omega)) := List.getElem?_eq_getElem (by omega)
      have hk3 := h.endk _ hle
      exact absurd (anc_listed hd hcl d.no o ho hed _ (hd.chain q e d _ hq hle hk3 hlt (.inl hk))) (h.later e _ (Nat.le_refl _) hle hk3)
    · exact heq
    · exact absurd hk (h.steady q d hpq hgt hq)
  subst heq
  have hreads := h.reads hd hw hcl hq ho hed
  obtain ⟨o', ho', hcs⟩ := hd.stmt e d hq
  rw [ho] at ho'
  simp only [Option.some.injEq] at ho'
  subst ho'
  obtain ⟨g, op, hg, hop, hdN, hs⟩ := compStmt_inv hcs
  have hdst : d.s.dst = o.dst := by rw [hs]
  have hgd : d.s.guard = g := by rw [hs]
  have hopd : d.s.op = op := by rw [hs]
  have hdN' : ∀ t, d.s.dst = some t → t < N := fun t ht => hdN t (by rw [← hdst]; exact ht)
  have hstep := hw.step e d hq
  unfold stepD at hstep
  have hwant : Region.wanted o (yielded ops a.tmps) = wanted d.s.guard (st e).1 := by
    rw [hgd]
    refine wanted_V rfl hg fun t b hgt => hreads t ?_
    unfold CStmt.reads
    rw [hgd, hgt]
    simp
  unfold wpOp
  simp only [ho]
  rw [hwant]
  have hset := lis_set hls
  have mkiff : ∀ {r : Nat}, Mk l st (listed.setIfInBounds d.no true) r ↔ Mk l st listed r := by
    intro r
    constructor
    · rintro ⟨c, h1, h2, h3, h4⟩
      rcases (hset c.no).1 h2 with h5 | h5
      · have := hd.inj r e c d h1 hq h5
        subst this
        rw [hq] at h1
        simp only [Option.some.injEq] at h1
        subst h1
        exact absurd hk h3
      · exact ⟨c, h1, h5, h3, h4⟩
    · rintro ⟨c, h1, h2, h3, h4⟩
      exact ⟨c, h1, (hset c.no).2 (.inr h2), h3, h4⟩
  obtain ⟨e', he1, he2, he3, he4⟩ := next_change l (e + 1) hql
  have hlen1 := hw.len_mono hLF (show e ≤ e + 1 by omega) hql
  have hlen2 := hw.len_mono hLF he1 he2
  have hlen3 := hw.len_mono hLF he2 (Nat.le_refl _)
  have hplen := hw.len_mono hLF hpq h.en
  have h0len := hw.len_mono hLF (Nat.zero_le e) h.en
  obtain ⟨bs, hbs⟩ := hw.grows he1 he2 he3
  have mkne : ∀ {r : Nat}, Mk l st listed r → r ≠ e := fun {r} hm he => by subst he; exact hnl (hm.up hq)
  -- nothing is laid down yet where the operation makes its blocks
  have hfree : ∀ b, (st e).2.1.length ≤ b → b < (st (e + 1)).2.1.length → ν b = none := by
    intro b h1 h2
    cases hb : ν b with
    | none => rfl
    | some mm =>
      rcases h.dom b mm hb with g1 | ⟨r, g1, g2, g3⟩ | g1
      · omega
      · have hrl := g2.lt
        rcases Nat.lt_trichotomy r e with g4 | g4 | g4
        · have := Way.apart hw hLF g2 h.en g4; omega
        · exact absurd g4 (mkne g2)
        · have := hw.len_mono hLF (show e + 1 ≤ r from g4) (by omega); omega
      · omega
  -- the new phase, out of what the operation leaves
  have finish : ∀ (v : CV) (v' : Value) (w' : World) (ν' : Mu), (st (e + 1)).1 = (st e).1.put d.s.dst v → Sim K' B ν' (st (e + 1)).2.1 w' → V ν' v v' → (∀ b, b < (st e).2.1.length → ν' b = ν b) → (∀ b, (st (e + 1)).2.1.length ≤ b → ν' b = ν b) →
      ∃ p' e' ν' K2, Inv K B L N l st ν0 (listed.setIfInBounds d.no true) (a.put d.s.dst v') w' p' e' ν' K2 := by
    intro v v' w' ν' hst hS hv hlow hfar
    have hmono : ∀ b mm, ν b = some mm → ν' b = some mm := by
      intro b mm hb
      rcases Nat.lt_or_ge b (st e).2.1.length with g1 | g1
      · rw [hlow b g1]; exact hb
      · rcases Nat.lt_or_ge b (st (e + 1)).2.1.length with g2 | g2
        · rw [hfree b g1 g2] at hb; cases hb
        · rw [hfar b g2]; exact hb
    obtain ⟨w1, w2⟩ := h.wrote_next hd hq hls hdN' hmono hv hst
    -- what is known of a block beyond the operation's own
    have beyond : ∀ b mm, (st (e + 1)).2.1.length ≤ b → b < L → ν' b = some mm → ∃ r, e + 1 ≤ r ∧ Mk l st listed r ∧ b = (st r).2.1.length ∧ ν b = some mm := by
      intro b mm g1 g2 hb
      rw [hfar b g1] at hb
      rcases h.dom b mm hb with g3 | ⟨r, g3, g4, g5⟩ | g3
      · omega
      · refine ⟨r, ?_, g4, g5, hb⟩
        rcases Nat.lt_trichotomy r e with g6 | g6 | g6
        · have := Way.apart hw hLF g4 h.en g6; omega
        · exact absurd g6 (mkne g4)
        · exact g6
      · omega
    classical
    let K2 : Nat → Option Obj := fun c => if ∃ r mm, e + 1 ≤ r ∧ r < e' ∧ Mk l st listed r ∧ ν (st r).2.1.length = some mm ∧ mm.c = c then none else K' c
    have hK2 : ∀ c x, K2 c = some x → K' c = some x := by
      intro c x hx
      simp only [K2] at hx
      split at hx
      · cases hx
      · exact hx
    have hS2 : Sim K2 B ν' ((st (e + 1)).2.1 ++ bs) w' := by
      refine hS.join (fun _ _ => rfl) (fun _ _ h => h) (fun b blk mm g1 g2 g3 => ?_) (fun b1 b2 m1 m2 g1 g2 g3 g4 g5 g6 g7 => ?_) hK2 (fun b mm g1 g2 g3 => ?_)
      · have hbl : b < ((st (e + 1)).2.1 ++ bs).length := (List.getElem?_eq_some_iff.1 g2).1
        rw [← hbs] at hbl
        obtain ⟨r, f1, f2, f3, f4⟩ := beyond b mm g1 (by omega) g3
        obtain ⟨m3, blk3, arr, T, c1, c2, c3, c4, c5, c6, c7, c8, c9, c10, c11⟩ := h.extra r (by omega) f2
        rw [← f3] at c1 c2
        rw [f4] at c1
        simp only [Option.some.injEq] at c1
        subst c1
        have hre : r < e' := by
          refine Nat.lt_of_not_le fun hle => ?_
          have := hw.len_mono hLF hle (Nat.le_of_lt f2.lt)
          omega
        obtain ⟨bs', hbs'⟩ := hw.grows (show r + 1 ≤ e' from hre) he2 (fun q c h1 h2 h3 => he3 q c (by omega) h2 h3)
        have hb2 : b < (st (r + 1)).2.1.length := (List.getElem?_eq_some_iff.1 c2).1
        have : blk = blk3 := by
          rw [← hbs, hbs', List.getElem?_append_left hb2, c2] at g2
          simpa using g2.symm
        subst this
        exact ⟨c3, c4, c5, arr, T, c6, c7, c9, c10, fun i x hx => let ⟨v, k1, k2⟩ := c11 i x hx; ⟨v, k1, V.mono hmono _ _ k2⟩⟩
      · rw [← hbs] at g3 g4
        obtain ⟨r1, f1, f2, f3, f4⟩ := beyond b1 m1 g1 (by omega) g6
        obtain ⟨r2, k1, k2, k3, k4⟩ := beyond b2 m2 g2 (by omega) g7
        refine h.apart r1 r2 m1 m2 (by omega) (by omega) (fun he => g5 (by rw [f3, k3, he])) f2 k2 (by rw [← f3]; exact f4) (by rw [← k3]; exact k4)
      · rw [← hbs] at g2
        obtain ⟨r, f1, f2, f3, f4⟩ := beyond b mm g1 (by omega) g3
        have hre : r < e' := by
          refine Nat.lt_of_not_le fun hle => ?_
          have := hw.len_mono hLF hle (Nat.le_of_lt f2.lt)
          omega
        simp only [K2]
        rw [if_pos ⟨r, mm, f1, hre, f2, by rw [← f3]; exact f4, rfl⟩]
    rw [← hbs] at hS2
    have farK : ∀ {r : Nat} {mm : Tgt}, e' ≤ r → Mk l st listed r → ν (st r).2.1.length = some mm → K2 mm.c = K' mm.c := by
      intro r mm hge hmk hm'
      simp only [K2]
      rw [if_neg]
      rintro ⟨r2, m2, f1, f2, f3, f4, f5⟩
      exact h.apart r2 r m2 mm (by omega) (by omega) (by omega) f3 hmk f4 hm' f5
    refine ⟨e + 1, e', ν', K2, he1, he2, fun r c hr hlt => (hset c.no).2 ?_, he3, he4, fun r c hge hr hk3 hl => ?_, hS2, fun c x hx => ?_, fun c x hx => ?_, fun r hge hm => ?_, fun r r' m1 m2 a1 a2 a3 a4 a5 a6 a7 => ?_, fun b mm hb => ?_, fun b hb => ?_, fun b hb => ?_, ?_, ?_, w1, w2⟩
    · rcases Nat.lt_or_ge r e with h1 | h1
      · by_cases hck : c.kind = 3
        · exact .inr (anc_listed hd hcl d.no o ho hed _ (hd.chain e r d c hq hr hck h1 (.inl hk)))
        · exact .inr (anc_listed hd hcl d.no o ho hed _ (hd.before e r d c hq hr hk hck h1))
      · have : r = e := by omega
        subst this
        rw [hq] at hr
        simp only [Option.some.injEq] at hr
        subst hr
        exact .inl rfl
    · rcases (hset c.no).1 hl with h1 | h1
      · have := hd.inj r e c d hr hq h1
        omega
      · exact h.later r c (by omega) hr hk3 h1
    · have h1 := h.keeps c x hx
      simp only [K2]
      rw [if_neg]
      · exact h1
      · rintro ⟨r2, m2, f1, f2, f3, f4, f5⟩
        obtain ⟨m3, blk3, arr, T, c1, _, _, _, _, _, _, c8, _⟩ := h.extra r2 (by omega) f3
        rw [f4] at c1
        simp only [Option.some.injEq] at c1
        subst c1
        rw [f5, hx] at c8
        cases c8
    · rcases h.only c x (hK2 c x hx) with h1 | ⟨r, mm, h1, h2, h3, h4⟩
      · exact .inl h1
      · refine .inr ⟨r, mm, ?_, mkiff.2 h2, hmono _ _ h3, h4⟩
        refine Nat.le_of_not_lt fun hlt => ?_
        have hre : e + 1 ≤ r := by
          have := mkne h2
          omega
        have : K2 c = none := by simp only [K2]; rw [if_pos ⟨r, mm, hre, hlt, h2, h3, h4⟩]
        rw [this] at hx
        cases hx
    · have hm' := mkiff.1 hm
      obtain ⟨m3, blk3, arr, T, c1, c2, c3, c4, c5, c6, c7, c8, c9, c10, c11⟩ := h.extra r (by omega) hm'
      exact ⟨m3, blk3, arr, T, hmono _ _ c1, c2, c3, c4, c5, c6, by rw [farK hge hm' c1]; exact c7, c8, c9, c10, fun i x hx => let ⟨v, k1, k2⟩ := c11 i x hx; ⟨v, k1, V.mono hmono _ _ k2⟩⟩
    · have g1 := hw.len_mono hLF a1 (Nat.le_of_lt a4.lt)
      have g2 := hw.len_mono hLF a2 (Nat.le_of_lt a5.lt)
      rw [hfar _ (by omega)] at a6 a7
      exact h.apart r r' m1 m2 (by omega) (by omega) a3 (mkiff.1 a4) (mkiff.1 a5) a6 a7
    · rcases Nat.lt_or_ge b (st (e + 1)).2.1.length with g1 | g1
      · exact .inl g1
      · rcases Nat.lt_or_ge b L with g2 | g2
        · obtain ⟨r, f1, f2, f3, _⟩ := beyond b mm g1 g2 hb
          exact .inr (.inl ⟨r, f1, mkiff.2 f2, f3⟩)
        · exact .inr (.inr g2)
    · rw [hlow b (by omega)]; exact h.low b hb
    · rw [hfar b (by omega)]; exact h.far b hb
    · cases hdd : d.s.dst <;> exact h.defers
    · cases hdd : d.s.dst with
      | none => exact h.size
      | some t => simp only [Act.put, Array.size_setIfInBounds]; exact h.size
  cases hwd : wanted d.s.guard (st e).1 with
  | false =>
    rw [if_pos hwd] at hstep
    simp only [Option.some.injEq] at hstep
    simp only [Bool.false_eq_true, if_false]
    rw [← hdst]
    refine finish .undef undef w ν (by rw [← hstep]) ?_ (V_undef ν) (fun _ _ => rfl) (fun _ _ => rfl)
    have : (st (e + 1)).2.1 = (st e).2.1 := by rw [← hstep]
    rw [this]
    exact h.sim
  | true =>
    rw [if_neg (by rw [hwd]; simp), if_pos hk, Option.map_eq_some_iff] at hstep
    obtain ⟨r, hrr, hstep⟩ := hstep
    simp only [if_true]
    have hr2 : (st (e + 1)).2.1 = r.2 := by rw [← hstep]
    rw [hopd] at hrr
    have hE : ∀ t ∈ op.tmps, V ν ((st e).1 t) (a.tmps.getD t undef) := fun t ht => hreads t (by unfold CStmt.reads; rw [hopd]; simp [ht])
    have hSt : St K' B (st (e + 1)).2.1.length ν (st e).2.1 w := ⟨h.sim, hfree⟩
    refine .inl (op_sim hF hSt hop hE hrr (by rw [hr2]; exact Nat.le_refl _) _ _ fun v' w' ν' hS' hV' hX' => ?_)
    rw [← hdst]
    refine finish r.1 v' w' ν' (by rw [← hstep]) (by rw [hr2]; exact hS'.sim) hV' hX'.same hX'.far
end

def unlisted (n : Nat) (listed : Array Bool) : Nat := ((List.range n).filter fun i => !listed.getD i false).length

theorem unlisted_set {n : Nat} {listed : Array Bool} {j : Nat} (hs : listed.size = n) (hj : j < n) (hn : ¬ lis listed j) : unlisted n (listed.setIfInBounds j true) < unlisted n listed := by
  unfold unlisted
  have hset := lis_set (listed := listed) (j := j) (by omega)
  have key : ∀ (l : List Nat), l.Nodup → j ∈ l → (l.filter fun i => !(listed.setIfInBounds j true).getD i false).length < (l.filter fun i => !listed.getD i false).length ∧ True := by
    intro l hnd hm
    have e : (l.filter fun i => !(listed.setIfInBounds j true).getD i false) = (l.filter fun i => !listed.getD i false).filter fun i => i ≠ j := by
      rw [List.filter_filter]
      refine List.filter_congr fun i _ => ?_
      have := hset i
      unfold lis at this
      by_cases hi : i = j
      · subst hi; simp [this.2 (.inl rfl)]
      · cases hb : listed.getD i false with
        | true => simp [this.2 (.inr hb)]
        | false =>
          have : (listed.setIfInBounds j true).getD i false = false := by
            cases hc : (listed.setIfInBounds j true).getD i false with
            | false => rfl
            | true => rcases this.1 hc with h | h; exact absurd h hi; rw [hb] at h; cases h
          simp [this, hi]
    rw [e]
    refine ⟨?_, trivial⟩
    have hmem : j ∈ l.filter fun i => !listed.getD i false := by
      rw [List.mem_filter]
      refine ⟨hm, ?_⟩
      unfold lis at hn
      simpa using hn
    exact List.length_filter_lt_length_iff_exists.2 ⟨j, hmem, by simp⟩
  exact (key _ List.nodup_range (List.mem_range.2 hj)).1

theorem unlisted_zero {n : Nat} {listed : Array Bool} (h : unlisted n listed = 0) {i : Nat} (hi : i < n) : lis listed i := by
  unfold unlisted at h
  rw [List.length_eq_zero_iff, List.filter_eq_nil_iff] at h
  have := h i (List.mem_range.2 hi)
  unfold lis
  simpa using this

theorem lis_none (n i : Nat) : ¬ lis (Array.replicate n false) i := by
  intro hi
  unfold lis at hi
  rw [Array.getD_eq_getD_getElem?, Array.getElem?_replicate] at hi
  split at hi <;> cases hi

section
variable {ops : Array Oper} {an : List (List Nat)} {l : List DStmt} {st : Nat → DSt} {ν0 : Mu} {F : CallF}

/-- Where all have come up. -/
theorem Inv.done {listed : Array Bool} {a : Act} {w : World} {p e : Nat} {ν : Mu} {K' : Nat → Option Obj} (h : Inv K B L N l st ν0 listed a w p e ν K') (hd : DFacts P N ops an l) (hw : Way F l st) (hLF : LenF F) (hend : (st l.length).2.1.length ≤ L)
    (hall : ∀ i, i < ops.size → lis listed i) : ∃ ν', St K B L ν' (st l.length).2.1 w ∧ ER ν' N (st l.length).1 a ∧ Ext L (st 0).2.1 ν0 (st l.length).2.1 ν' := by
  have hno : ∀ {q : Nat} {d : DStmt}, l[q]? = some d → lis listed d.no := by
    intro q d hq
    obtain ⟨o, ho, _⟩ := hd.stmt q d hq
    exact hall _ (Array.getElem?_eq_some_iff.1 ho).1
  have he : e = l.length := by
    refine Nat.le_antisymm h.en (Nat.le_of_not_lt fun hlt => ?_)
    have hx : l[e]? = some (l[e]'hlt) := List.getElem?_eq_getElem hlt
    exact h.later e _ (Nat.le_refl _) hx (h.endk _ hx) (hno hx)
  subst he
  have hK : K' = K := by
    funext c
    cases hk : K' c with
    | none =>
      cases hk2 : K c with
      | none => rfl
      | some x => rw [h.keeps c x hk2] at hk; cases hk
    | some x =>
      rcases h.only c x hk with h1 | ⟨r, m, h1, h2, _⟩
      · exact h1.symm
      · have := h2.lt; omega
  have hsim := h.sim
  rw [hK] at hsim
  have hpl := hw.len_mono hLF h.pe (Nat.le_refl _)
  refine ⟨ν, ⟨hsim, fun b h1 h2 => ?_⟩, ⟨h.defers, h.size, fun t => ?_⟩, ⟨hw.len_mono hLF (Nat.zero_le _) (Nat.le_refl _), h.low, h.far⟩⟩
  · cases hb : ν b with
    | none => rfl
    | some m =>
      rcases h.dom b m hb with g | ⟨r, g1, g2, g3⟩ | g
      · omega
      · have := Way.apart hw hLF g2 (Nat.le_refl _) g2.lt; omega
      · omega
  · by_cases hx : ∃ (r : Nat) (c : DStmt), l[r]? = some c ∧ c.s.dst = some t
    · obtain ⟨r, c, hrc, hc⟩ := hx
      rw [hw.env_keep hd.dst hrc hc (List.getElem?_eq_some_iff.1 hrc).1 (Nat.le_refl _)]
      exact h.wrote r c t hrc (hno hrc) hc
    · rw [hw.env_init (Nat.le_refl _) fun r c hrc hc => hx ⟨r, c, hrc, hc⟩]
      exact h.unwrote t fun r c hrc hc => absurd ⟨r, c, hrc, hc⟩ hx

theorem any_sim (hd : DFacts P N ops an l) (hw : Way F l st) (hF : SimF P F) (hLF : LenF F) (h0 : (st 0).2.2 = []) (hend : (st l.length).2.1.length ≤ L) {Q : Exit → Act → World → Prop}
    (hQ : ∀ a w, (∃ ν', St K B L ν' (st l.length).2.1 w ∧ ER ν' N (st l.length).1 a ∧ Ext L (st 0).2.1 ν0 (st l.length).2.1 ν') → Q .normal a w) :
    ∀ (fuel : Nat) (listed : Array Bool) (a : Act) (w : World), listed.size = ops.size → Closed ops listed → unlisted ops.size listed ≤ fuel → (∃ p e ν K', Inv K B L N l st ν0 listed a w p e ν K') →
    wpAny P .any ops Q fuel listed a w := by
  intro fuel
  induction fuel with
  | zero =>
    intro listed a w hs hcl hu ⟨p, e, ν, K', h⟩
    have hall : ∀ i, i < ops.size → lis listed i := fun i hi => unlisted_zero (by omega) hi
    refine ⟨?_, hQ _ _ (h.done hd hw hLF hend hall)⟩
    rw [List.eq_nil_iff_forall_not_mem]
    intro j hj
    obtain ⟨h1, o, ho, _⟩ := mem_ready.1 hj
    have hlt := (Array.getElem?_eq_some_iff.1 ho).1
    have := hall j hlt
    unfold lis at this
    rw [Array.getD_eq_getD_getElem?, Array.getElem?_eq_getElem (by omega)] at h1 this
    simp at h1 this
    rw [h1] at this
    cases this
  | succ fuel ih =>
    intro listed a w hs hcl hu ⟨p, e, ν, K', h⟩
    have edges : ∀ (o : Oper), (∀ e ∈ o.after, Region.binds .any e = true → listed.getD e.on false = true) ↔ ∀ i ∈ edgesOf o, lis listed i := by
      intro o
      unfold edgesOf lis
      simp only [List.mem_map, List.mem_filter, Array.mem_toList_iff]
      constructor
      · rintro hx i ⟨e, ⟨he, hb⟩, rfl⟩; exact hx e he hb
      · intro hx e he hb; exact hx e.on ⟨e, ⟨he, hb⟩, rfl⟩
    refine ⟨fun hr => hQ _ _ (h.done hd hw hLF hend fun i => ?_), fun j hj => ?_⟩
    · induction i using Nat.strongRecOn with
      | _ i ihi =>
        intro hi
        have hx : ops[i]? = some (ops[i]'hi) := Array.getElem?_eq_getElem hi
        by_cases hlis : lis listed i
        · exact hlis
        · have : i ∈ Region.ready .any ops listed := by
            refine mem_ready.2 ⟨?_, _, hx, ?_⟩
            · unfold lis at hlis
              rw [Array.getD_eq_getD_getElem?, Array.getElem?_eq_getElem (by omega)] at hlis ⊢
              simpa using hlis
            · exact (edges _).2 fun e he => ihi e (hd.edges i _ hx e he) (by have := hd.edges i _ hx e he; omega)
          rw [hr] at this
          cases this
    · obtain ⟨h1, o, ho, h2⟩ := mem_ready.1 hj
      have hlt := (Array.getElem?_eq_some_iff.1 ho).1
      have hnl : ¬ lis listed j := by
        unfold lis
        rw [Array.getD_eq_getD_getElem?, Array.getElem?_eq_getElem (by omega)] at h1 ⊢
        simpa using h1
      have hed := (edges o).1 h2
      obtain ⟨q, d, hq, hdj⟩ := hd.all j hlt
      subst hdj
      have hcl' : Closed ops (listed.setIfInBounds d.no true) := by
        intro i o' ho' hi e he
        have hset := lis_set (listed := listed) (j := d.no) (by omega)
        rcases (hset i).1 hi with h3 | h3
        · subst h3
          rw [ho] at ho'
          simp only [Option.some.injEq] at ho'
          subst ho'
          exact (hset e).2 (.inr (hed e he))
        · exact (hset e).2 (.inr (hcl i o' ho' h3 e he))
      have hu' := unlisted_set hs hlt hnl
      have hgo : ∀ a' w', (∃ p e ν K', Inv K B L N l st ν0 (listed.setIfInBounds d.no true) a' w' p e ν K') → wpAny P .any ops Q fuel (listed.setIfInBounds d.no true) a' w' :=
        fun a' w' hI => ih _ a' w' (by simpa using hs) hcl' (by omega) hI
      by_cases hk : d.kind = 3
      · exact wpOp_mono hgo (h.step_change hd hw hF hLF hcl hend hq hk hnl (by omega) ho hed)
      · refine wpOp_mono (fun a' w' hI => hgo a' w' ?_) (h.step_steady hd hw hLF hcl h0 hend hq hk hnl (by omega) ho hed)
        obtain ⟨ν', K2, hI⟩ := hI
        exact ⟨p, e, ν', K2, hI⟩
end

theorem dregion_sim (hm : P.follows .mixedOrders = true) (hF : SimF P F) (hLF : LenF F) {id : Nat} {ops : Array Oper} {ss : List CStmt} (hc : allSome (ops.toList.map (compStmt P N ops)) = some ss) {l : List DStmt} (hl : ∃ ks, l = compD ss (ancs ops.toList) ks)
    (hok : dOk ops.toList ss (ancs ops.toList) l = true)
    {E : Env} {H : CHeap} {ν : Mu} {a : Act} {w : World} {r : Env × CHeap} (he : evD F l E H [] = some r) (hL : r.2.length ≤ L) (hS : St K B L ν H w) (hR : ER ν N E a) :
    (Code.region id ops true).wp P (fun x a' w' => ∃ ν', x = .normal ∧ St K B L ν' r.2 w' ∧ ER ν' N r.1 a' ∧ Ext L H ν r.2 ν') a w := by
  have hd := dFacts hc hl hok
  obtain ⟨st, h0, h1, h2, hw⟩ := evD_way he
  have hH0 : (st 0).2.1 = H := by rw [h0]
  have hE0 : (st 0).1 = E := by rw [h0]
  have hend : (st l.length).2.1.length ≤ L := by rw [h2]; exact hL
  obtain ⟨e, he1, he2, he3, he4⟩ := next_change l 0 (Nat.zero_le _)
  refine wp_region_any hm (any_sim (K := K) (B := B) (ν0 := ν) hd hw hF hLF (by rw [h0]) hend (fun a' w' hq => ?_) ops.size _ a _ (by simp) (fun j o ho hj e he => ?_) ?_ ⟨0, e, ν, K, ?_⟩)
  · obtain ⟨ν', g1, g2, g3⟩ := hq
    rw [h2] at g1 g3
    rw [h1] at g2
    rw [hH0] at g3
    exact ⟨ν', rfl, g1, g2, g3⟩
  · exact (lis_none _ _ hj).elim
  · unfold unlisted
    exact Nat.le_trans (List.length_filter_le _ _) (by simp)
  · have nl : ∀ i, ¬ lis (Array.replicate ops.size false) i := lis_none _
    have nmk : ∀ q, ¬ Mk l st (Array.replicate ops.size false) q := fun q ⟨d, _, h2, _⟩ => nl _ h2
    obtain ⟨bs, hbs⟩ := hw.grows he1 he2 he3
    have hlen := hw.len_mono hLF he2 (Nat.le_refl _)
    have hS0 := hS.sim.same (w' := { w with drawn := w.drawn + 1 }) rfl rfl rfl rfl
    have none_at : ∀ b m, H.length ≤ b → b < ((st 0).2.1 ++ bs).length → ν b = some m → False := by
      intro b m g1 g2 g3
      rw [← hbs] at g2
      rw [hS.dom b g1 (by omega)] at g3
      cases g3
    have hS2 : Sim K B ν ((st 0).2.1 ++ bs) { w with drawn := w.drawn + 1 } := by
      rw [hH0]
      rw [hH0] at none_at
      exact hS0.join (fun _ _ => rfl) (fun _ _ h => h) (fun b blk m g1 g2 g3 => (none_at b m g1 (List.getElem?_eq_some_iff.1 g2).1 g3).elim) (fun b1 b2 m1 m2 g1 _ g3 _ _ g6 _ => (none_at b1 m1 g1 g3 g6).elim) (fun _ _ h => h)
        (fun b m g1 g2 g3 => (none_at b m g1 g2 g3).elim)
    rw [← hbs] at hS2
    refine ⟨Nat.zero_le _, he2, fun q d hq hlt => by omega, fun q d g1 g2 g3 => he3 q d g1 g2 g3, he4, fun q d _ _ _ h => nl _ h, hS2, fun _ _ h => h, fun c o h => .inl h, fun q _ hm => (nmk q hm).elim, fun q q' m m' _ _ _ hm => (nmk q hm).elim, fun b m hb => ?_,
      fun _ _ => rfl, fun _ _ => rfl, hR.defers, hR.size, fun q d t _ hl => (nl _ hl).elim, fun t _ => by rw [hE0]; exact hR.val t⟩
    rw [hH0]
    rcases Nat.lt_or_ge b H.length with g | g
    · exact .inl g
    · rcases Nat.lt_or_ge b L with g2 | g2
      · rw [hS.dom b g g2] at hb; cases hb
      · exact .inr (.inr g2)
end
end Go.Cs

/- Code and functions: what the clean machine comes to, the model comes to. -/
namespace Go.Cs
open Go Go.RowKit

def XR : CX → Exit → Prop
  | .normal, x => x = .normal
  | .exit id, x => x = .exit id
  | .ret, x => x = .ret

/-- What holds behind a piece of code. -/
def CQ (K : Nat → Option Obj) (B : World) (L N : Nat) (H : CHeap) (ν : Mu) (r : CX × Env × CHeap) : Exit → Act → World → Prop :=
  fun x a w => ∃ ν', XR r.1 x ∧ St K B L ν' r.2.2 w ∧ ER ν' N r.2.1 a ∧ Ext L H ν r.2.2 ν'

section
variable {P : Program} {F : CallF} {K : Nat → Option Obj} {B : World} {L N : Nat}

theorem CQ.later {H H1 : CHeap} {ν ν1 : Mu} {r : CX × Env × CHeap} (h : Ext L H ν H1 ν1) {x : Exit} {a : Act} {w : World} (hq : CQ K B L N H1 ν1 r x a w) : CQ K B L N H ν r x a w := by
  obtain ⟨ν', h1, h2, h3, h4⟩ := hq
  exact ⟨ν', h1, h2, h3, h.trans h4⟩

/-- The operations of a region in the text's order. -/
theorem ops_sim (hF : SimF P F) (hLF : LenF F) {ops : Array Oper} : ∀ (l : List Nat) (ss : List CStmt), ss.length = l.length → (∀ (q : Nat) (i : Nat) (s : CStmt), l[q]? = some i → ss[q]? = some s → ∃ o, ops[i]? = some o ∧ compStmt P N ops o = some s) →
    ∀ (E : Env) (H : CHeap) (ν : Mu) (a : Act) (w : World) (r : Env × CHeap), evOps F ss E H = some r → r.2.length ≤ L → St K B L ν H w → ER ν N E a →
    wpOps P ops (CQ K B L N H ν (.normal, r.1, r.2)) l a w
  | [], [], _, _, E, H, ν, a, w, r, he, _, hS, hR => by
    simp only [evOps, Option.some.injEq] at he
    subst he
    exact ⟨ν, rfl, hS, hR, Ext.refl _ _ _⟩
  | i :: l, s :: ss, hl, hs, E, H, ν, a, w, r, he, hL, hS, hR => by
    obtain ⟨o, ho, hc⟩ := hs 0 i s rfl rfl
    have ih := ops_sim hF hLF (ops := ops) l ss (by simpa using hl) (fun q j t h1 h2 => hs (q + 1) j t (by simpa using h1) (by simpa using h2))
    simp only [evOps, Option.bind_eq_some_iff] at he
    obtain ⟨⟨E1, H1⟩, he1, he2⟩ := he
    obtain ⟨g, op, hg, hop, hd, rfl⟩ := compStmt_inv hc
    rw [wpOps_cons]
    unfold wpOp
    simp only [ho]
    rw [wanted_sim hg hR]
    unfold evStmt at he1
    dsimp only at he1
    split at he1
    · rename_i hw
      rw [if_pos hw]
      rw [Option.map_eq_some_iff] at he1
      obtain ⟨v, hv, he1⟩ := he1
      simp only [Prod.mk.injEq] at he1
      obtain ⟨rfl, rfl⟩ := he1
      refine .inl (op_sim hF hS hop (fun t _ => hR.val t) hv (Nat.le_trans (evOps_len hLF he2) hL) _ _ fun v' w' ν' hS' hV' hx' => ?_)
      have hm := hx'.mono hS
      refine wpOps_mono ?_ _ _ _ (ih _ _ ν' _ w' r he2 hL hS' ((hR.mono hm).put hd hV'))
      exact fun x a w hq => CQ.later hx' hq
    · rename_i hw
      rw [if_neg hw]
      simp only [Option.some.injEq, Prod.mk.injEq] at he1
      obtain ⟨rfl, rfl⟩ := he1
      exact ih _ _ ν _ w r he2 hL hS (hR.put hd (by simp [V, VL, undef]))
  | [], _ :: _, hl, _, _, _, _, _, _, _, _, _, _, _ => by simp at hl
  | _ :: _, [], hl, _, _, _, _, _, _, _, _, _, _, _ => by simp at hl

theorem region_sim (hF : SimF P F) (hLF : LenF F) {id : Nat} {ops : Array Oper} {ss : List CStmt} (hc : allSome (ops.toList.map (compStmt P N ops)) = some ss) {E : Env} {H : CHeap} {ν : Mu} {a : Act} {w : World} {r : Env × CHeap} (he : evOps F ss E H = some r) (hL : r.2.length ≤ L)
    (hS : St K B L ν H w) (hR : ER ν N E a) : (Code.region id ops false).wp P (CQ K B L N H ν (.normal, r.1, r.2)) a w := by
  refine wp_region (ops_sim hF hLF (List.range ops.size) ss (by simp [allSome_length hc]) (fun q i s h1 h2 => ?_) E H ν a w r he hL hS hR)
  have hx := allSome_get hc h2
  rw [List.getElem?_map, Option.map_eq_some_iff] at hx
  obtain ⟨o, ho, hs⟩ := hx
  have hq : q < ops.size := by have := (List.getElem?_eq_some_iff.1 h1).1; simpa using this
  rw [List.getElem?_range hq] at h1
  simp only [Option.some.injEq] at h1
  subst h1
  exact ⟨o, by simpa using ho, hs⟩

theorem least {p : Nat → Prop} (h : ∃ n, p n) : ∃ n, p n ∧ ∀ m, p m → n ≤ m := by
  obtain ⟨n, hn⟩ := h
  induction n using Nat.strongRecOn with
  | _ n ih =>
    by_cases hx : ∃ m, m < n ∧ p m
    · obtain ⟨m, hlt, hp⟩ := hx; exact ih m hlt hp
    · exact ⟨n, hn, fun m hm => Nat.le_of_not_lt fun hlt => hx ⟨m, hlt, hm⟩⟩

theorem code_sim (hm : P.follows .mixedOrders = true) : ∀ (n : Nat), (∀ k, k < n → SimF P (callN (cprog P) k)) → ∀ (c : Code) (cc : CCode) (E : Env) (H : CHeap) (r : CX × Env × CHeap), compCode P N c = some cc → ev (cprog P) n cc E H = some r → r.2.2.length ≤ L →
    ∀ (ν : Mu) (a : Act) (w : World), St K B L ν H w → ER ν N E a → c.wp P (CQ K B L N H ν r) a w
  | 0, _, _, _, _, _, _, _, he, _, _, _, _, _, _ => by cases he
  | n + 1, hF, c, cc, E, H, r, hc, he, hL, ν, a, w, hS, hR => by
    have ih := code_sim hm n (fun k hk => hF k (by omega))
    have hFn := hF n (by omega)
    rw [ev_succ] at he
    cases c with
    | skip =>
      simp only [compCode, Option.some.injEq] at hc; subst hc
      simp only [Option.some.injEq] at he; subst he
      exact wp_skip ⟨ν, rfl, hS, hR, Ext.refl _ _ _⟩
    | region id ops draw =>
      simp only [compCode, Option.bind_eq_some_iff] at hc
      obtain ⟨ss, hss, hc⟩ := hc
      cases draw with
      | false =>
        simp only [Bool.false_eq_true, if_false, Option.some.injEq] at hc; subst hc
        rw [Option.map_eq_some_iff] at he
        obtain ⟨q, hq, rfl⟩ := he
        exact region_sim hFn (callN_len _ n) hss hq hL hS hR
      | true =>
        simp only [if_true] at hc
        obtain ⟨hok, hc⟩ := guardB_some hc
        simp only [Option.some.injEq] at hc; subst hc
        rw [Option.map_eq_some_iff] at he
        obtain ⟨q, hq, rfl⟩ := he
        refine wp_mono (dregion_sim hm hFn (callN_len _ n) hss ⟨_, rfl⟩ hok hq hL hS hR) fun x a w hq => ?_
        obtain ⟨ν', rfl, h1, h2, h3⟩ := hq
        exact ⟨ν', rfl, h1, h2, h3⟩
    | seq x y =>
      simp only [compCode, Option.bind_eq_some_iff, Option.map_eq_some_iff] at hc
      obtain ⟨x', hx, y', hy, rfl⟩ := hc
      rw [Option.bind_eq_some_iff] at he
      obtain ⟨q, hq, he⟩ := he
      have hqL : q.2.2.length ≤ L := by
        split at he
        · exact Nat.le_trans (ev_len _ n he) hL
        · simp only [Option.some.injEq] at he; subst he; exact hL
      refine wp_seq (wp_mono (ih x x' E H q hx hq hqL ν a w hS hR) fun e a1 w1 h1 => ?_)
      obtain ⟨ν1, hx1, hS1, hR1, hE1⟩ := h1
      obtain ⟨cx, E1, H1⟩ := q
      cases cx with
      | normal =>
        simp only [XR] at hx1; subst hx1
        exact wp_mono (ih y y' E1 H1 r hy he hL ν1 a1 w1 hS1 hR1) fun e a2 w2 h2 => CQ.later hE1 h2
      | exit id =>
        simp only [Option.some.injEq] at he; subst he
        simp only [XR] at hx1; subst hx1
        exact ⟨ν1, rfl, hS1, hR1, hE1⟩
      | ret =>
        simp only [Option.some.injEq] at he; subst he
        simp only [XR] at hx1; subst hx1
        exact ⟨ν1, rfl, hS1, hR1, hE1⟩
    | cond c x y =>
      simp only [compCode, Option.bind_eq_some_iff, Option.map_eq_some_iff] at hc
      obtain ⟨c', hcc, x', hx, y', hy, rfl⟩ := hc
      dsimp only at he
      split at he
      · rename_i t ht
        have h1 := opd_V hcc (fun t _ => hR.val t)
        rw [ht] at h1
        simp only [V] at h1
        refine wp_cond h1 ?_
        cases t with
        | true => exact ih x x' E H r hx he hL ν a w hS hR
        | false => exact ih y y' E H r hy he hL ν a w hS hR
      · cases he
    | block id c =>
      simp only [compCode, Option.map_eq_some_iff] at hc
      obtain ⟨c', hcc, rfl⟩ := hc
      rw [Option.map_eq_some_iff] at he
      obtain ⟨q, hq, rfl⟩ := he
      refine wp_block (wp_mono (ih c c' E H q hcc hq hL ν a w hS hR) fun e a1 w1 h1 => ?_)
      obtain ⟨ν1, hx1, hS1, hR1, hE1⟩ := h1
      obtain ⟨cx, E1, H1⟩ := q
      cases cx with
      | normal => simp only [XR] at hx1; subst hx1; exact ⟨ν1, rfl, hS1, hR1, hE1⟩
      | exit id' =>
        simp only [XR] at hx1; subst hx1
        by_cases hid : id' = id
        · simp only [Exit.inBlock, hid, if_true]; exact ⟨ν1, by simp [CX.inBlock, XR], hS1, hR1, hE1⟩
        · simp only [Exit.inBlock, hid, if_false]; exact ⟨ν1, by simp [CX.inBlock, XR, hid], hS1, hR1, hE1⟩
      | ret => simp only [XR] at hx1; subst hx1; exact ⟨ν1, rfl, hS1, hR1, hE1⟩
    | loop c =>
      have hc0 := hc
      simp only [compCode, Option.map_eq_some_iff] at hc
      obtain ⟨c', hcc, rfl⟩ := hc
      -- the rounds: by the fuel that is left
      let J : Nat → Act → World → Prop := fun m a w => m ≤ n + 1 ∧ ∃ E H1 ν1, ev (cprog P) m (.loop c') E H1 = some r ∧ St K B L ν1 H1 w ∧ ER ν1 N E a ∧ Ext L H ν H1 ν1
      classical
      refine wp_loop (fun a w => ∃ m, J m a w) (fun a w => if h : ∃ m, J m a w then (least h).choose else 0) ⟨n + 1, Nat.le_refl _, E, H, ν, by rw [ev_succ]; exact he, hS, hR, Ext.refl _ _ _⟩ fun a1 w1 hI => ?_
      rw [dif_pos hI]
      obtain ⟨hle, E1, H1, ν1, hev, hS1, hR1, hE1⟩ := (least hI).choose_spec.1
      generalize (least hI).choose = m at *
      cases m with
      | zero => cases hev
      | succ m =>
        rw [ev_succ] at hev
        dsimp only at hev
        rw [Option.bind_eq_some_iff] at hev
        obtain ⟨q, hq, hev⟩ := hev
        have hq' := ev_le (cprog P) (show m ≤ n by omega) c' E1 H1 q hq
        have hqL : q.2.2.length ≤ L := by
          split at hev
          · exact Nat.le_trans (ev_len _ m hev) hL
          · simp only [Option.some.injEq] at hev; subst hev; exact hL
        refine wp_mono (ih c c' E1 H1 q hcc hq' hqL ν1 a1 w1 hS1 hR1) fun e a2 w2 h2 => ?_
        obtain ⟨ν2, hx2, hS2, hR2, hE2⟩ := h2
        obtain ⟨cx, E2, H2⟩ := q
        cases cx with
        | normal =>
          simp only [XR] at hx2; subst hx2
          have hJ : J m a2 w2 := ⟨by omega, E2, H2, ν2, hev, hS2, hR2, hE1.trans hE2⟩
          refine ⟨⟨m, hJ⟩, ?_⟩
          rw [dif_pos ⟨m, hJ⟩]
          exact Nat.lt_succ_of_le ((least ⟨m, hJ⟩).choose_spec.2 m hJ)
        | exit id =>
          simp only [Option.some.injEq] at hev; subst hev
          simp only [XR] at hx2; subst hx2
          exact ⟨ν2, rfl, hS2, hR2, hE1.trans hE2⟩
        | ret =>
          simp only [Option.some.injEq] at hev; subst hev
          simp only [XR] at hx2; subst hx2
          exact ⟨ν2, rfl, hS2, hR2, hE1.trans hE2⟩
    | exit id =>
      simp only [compCode, Option.some.injEq] at hc; subst hc
      simp only [Option.some.injEq] at he; subst he
      exact wp_exit ⟨ν, rfl, hS, hR, Ext.refl _ _ _⟩
    | ret =>
      simp only [compCode, Option.some.injEq] at hc; subst hc
      simp only [Option.some.injEq] at he; subst he
      exact wp_ret ⟨ν, rfl, hS, hR, Ext.refl _ _ _⟩
    | _ => cases hc

/-- What a result variable reads as. -/
def resSem (tmps : Array Value) : ResultVar → Sem Value
  | .tmp t => pure (tmps.getD t undef)
  | .cell a t => do loadVar t (← asAddr (tmps.getD a undef))

theorem resAll_run {ν : Mu} {E : Env} {H : CHeap} {w : World} {tmps : Array Value} (hS : St K B L ν H w) (hV : ∀ t, V ν (E t) (tmps.getD t undef)) : ∀ (l : List ResultVar) (rs : List CRes) (vs : List CV), allSome (l.map (compRes P)) = some rs → resAll E H rs = some vs →
    ∃ us, (l.mapM (resSem tmps)).run P w = .ok us w ∧ VL ν vs us
  | [], rs, vs, h, hr => by
    simp only [List.map_nil, allSome, Option.some.injEq] at h; subst h
    simp only [resAll, Option.some.injEq] at hr; subst hr
    exact ⟨[], by simp, by simp [VL]⟩
  | x :: l, rs, vs, h, hr => by
    simp only [List.map_cons] at h
    cases hx : compRes P x with
    | none => rw [hx] at h; cases h
    | some y =>
      rw [hx] at h
      simp only [allSome, Option.map_eq_some_iff] at h
      obtain ⟨ys, hys, rfl⟩ := h
      simp only [resAll, Option.bind_eq_some_iff, Option.map_eq_some_iff] at hr
      obtain ⟨v, hv, us', hus', rfl⟩ := hr
      obtain ⟨us, hrun, hVL⟩ := resAll_run hS hV l ys us' hys hus'
      rw [List.mapM_cons]
      cases x with
      | tmp t =>
        simp only [compRes, Option.some.injEq] at hx; subst hx
        simp only [resOf, Option.some.injEq] at hv; subst hv
        refine ⟨tmps.getD t undef :: us, by simp only [resSem, Sem.run_bind, Sem.run_pure, Result.andThen_ok, hrun], ?_⟩
        simp only [VL]
        exact ⟨_, _, rfl, hV t, hVL⟩
      | cell ad t =>
        simp only [compRes, Option.bind_eq_some_iff, Option.map_eq_some_iff] at hx
        obtain ⟨g, hg, n, hn, rfl⟩ := hx
        simp only [resOf] at hv
        split at hv
        · rename_i b o hb
          have h1 := hV ad
          rw [hb] at h1
          simp only [V] at h1
          obtain ⟨m, hm, he⟩ := h1
          obtain ⟨v', hr', hV'⟩ := load_run (P := P) hS.sim hg hn hv hm
          refine ⟨v' :: us, ?_, ?_⟩
          · have h2 : (resSem tmps (.cell ad t)).run P w = .ok v' w := by simp only [resSem, he, asAddr, Sem.run_bind, Sem.run_pure, Result.andThen_ok, hr']
            simp only [Sem.run_bind, Sem.run_pure, Result.andThen_ok, h2, hrun]
          · simp only [VL]; exact ⟨_, _, rfl, hV', hVL⟩
        · cases hv

theorem call_sim (hm : P.follows .mixedOrders = true) : ∀ n, SimF P (callN (cprog P) n) := by
  intro n
  induction n using Nat.strongRecOn with
  | _ n ih =>
    intro f args H r h
    unfold callN at h
    rw [Option.bind_eq_some_iff] at h
    obtain ⟨cf, hcf, h⟩ := h
    rw [Option.bind_eq_some_iff] at h
    obtain ⟨q, hq, hleave⟩ := h
    unfold cprog at hcf
    rw [Option.bind_eq_some_iff] at hcf
    obtain ⟨fn, hfn, hcf⟩ := hcf
    unfold compFunc at hcf
    obtain ⟨hname, hcf⟩ := guardB_some hcf
    rw [Option.bind_eq_some_iff] at hcf
    obtain ⟨c, hbody, hcf⟩ := hcf
    rw [Option.bind_eq_some_iff] at hcf
    obtain ⟨cc, hcc, hcf⟩ := hcf
    rw [Option.map_eq_some_iff] at hcf
    obtain ⟨rs, hrs, rfl⟩ := hcf
    have hlenr : q.2.2 = r.2 := by
      unfold leave at hleave
      split at hleave
      · rw [Option.map_eq_some_iff] at hleave; obtain ⟨v, _, rfl⟩ := hleave; rfl
      · rw [Option.map_eq_some_iff] at hleave; obtain ⟨v, _, rfl⟩ := hleave; rfl
      · cases hleave
    refine ⟨⟨fn, hfn, by simpa using hname, by simp [hbody]⟩, by rw [← hlenr]; exact ev_len _ n hq, fun K B L ν w args' hL hS hv => ?_⟩
    refine calls_of_wp hfn hbody ?_
    have hlen : args'.size = args.length := by have := hv.length; simpa using this
    have hR : ER ν fn.ntmps (entry args) { tmps := args' ++ Array.replicate (fn.ntmps - args'.size) undef, defers := [] } := by
      refine ⟨rfl, by simp; omega, fun t => ?_⟩
      unfold entry
      rcases Nat.lt_or_ge t args.length with ht | ht
      · have hx : args[t]? = some (args[t]'ht) := List.getElem?_eq_getElem ht
        obtain ⟨u, hu, hV⟩ := hv.get hx
        have hu' : args'[t]? = some u := by simpa using hu
        rw [List.getD_eq_getElem?_getD, hx, Array.getD_eq_getD_getElem?, Array.getElem?_append_left (by omega), hu']
        exact hV
      · rw [List.getD_eq_getElem?_getD, List.getElem?_eq_none ht, Array.getD_eq_getD_getElem?, Array.getElem?_append_right (by omega), Array.getElem?_replicate]
        have : V ν CV.undef undef := by simp [V, VL, undef]
        split <;> exact this
    refine wp_mono (code_sim (N := fn.ntmps) hm n ih c cc (entry args) H q hcc hq (by rw [hlenr]; exact hL) ν _ w hS hR) fun x a w' hx => ?_
    obtain ⟨ν', hxr, hS', hR', hE'⟩ := hx
    obtain ⟨cx, E', H'⟩ := q
    have fin : (results ⟨cc, rs⟩ E' H').map (fun v => (v, H')) = some r → a.defers = [] ∧ ∃ v, (Go.results fn a.tmps).run P w' = .ok v w' ∧
        ∃ v' ν'', Ending.returned v = .returned v' ∧ St K B L ν'' r.2 w' ∧ V ν'' r.1 v' ∧ Ext L H ν r.2 ν'' := by
      intro hr
      rw [Option.map_eq_some_iff] at hr
      obtain ⟨v, hv, rfl⟩ := hr
      unfold Cs.results at hv
      rw [Option.map_eq_some_iff] at hv
      obtain ⟨vs, hvs, rfl⟩ := hv
      obtain ⟨us, hrun, hVL⟩ := resAll_run (P := P) hS' hR'.val fn.results.toList rs vs hrs hvs
      refine ⟨hR'.defers, ?_⟩
      have hrun' : (Go.results fn a.tmps).run P w' = .ok (if h : us.toArray.size = 1 then us.toArray[0] else .tuple us.toArray) w' := by
        show (Array.mapM (resSem a.tmps) fn.results >>= fun vs => pure (if h : vs.size = 1 then vs[0] else .tuple vs) : Sem Value).run P w' = _
        rw [Array.mapM_eq_mapM_toList]
        simp only [Sem.run_bind, Sem.run_map, hrun, Result.andThen_ok, Sem.run_pure]
      refine ⟨_, hrun', _, ν', rfl, hS', ?_, hE'⟩
      match vs, us, hVL with
      | [], us, hVL => simp only [VL] at hVL; subst hVL; simp [V, VL]
      | [v], us, hVL =>
        simp only [VL] at hVL
        obtain ⟨u, rest, rfl, hV, rfl⟩ := hVL
        simpa using hV
      | v1 :: v2 :: vs, us, hVL =>
        have hl := hVL.length
        have h1 : ¬ (us.toArray.size = 1) := by simp at hl ⊢; omega
        rw [dif_neg h1]
        simp only [V]
        exact ⟨_, rfl, by simpa using hVL⟩
    cases cx with
    | normal => simp only [XR] at hxr; subst hxr; exact fin hleave
    | ret => simp only [XR] at hxr; subst hxr; exact fin hleave
    | exit id => cases hleave
end
end Go.Cs

/- From a run of the clean machine to the call in the model. -/
namespace Go.Cs
open Go Go.RowKit

theorem bridge {P : Program} (hm : P.follows .mixedOrders = true) {f : Nat} {args : List CV} {args' : Array Value} {W : World} {H0 H1 : CHeap} {μ : Mu} {v : CV}
    (h0 : ∀ b blk m, H0[b]? = some blk → blk.mode ≠ .dead → μ b = some m → blk.mode = .ro ∧ m.c < W.heap.size ∧ ∃ arr T fz, W.heap[m.c]? = some (.cells arr T fz) ∧ ∀ (i : Nat) (c : CV), blk.cells[i]? = some c → ∃ v, arr[m.s + i]? = some v ∧ V μ c v)
    (hμ : ∀ b, H0.length ≤ b → μ b = none) (hrun : run (cprog P) f args H0 = some (v, H1)) (hv : VL μ args args'.toList) :
    Calls P f args' W fun e w' => (∃ ν v', e = .returned v' ∧ V ν v v') ∧ Below W.heap.size W w' := by
  obtain ⟨n, hn⟩ := run_some.1 hrun
  obtain ⟨_, _, h⟩ := call_sim hm n f args H0 (v, H1) hn
  have sim : Sim (fun _ => none) W μ H0 W := by
    refine ⟨Below.refl _ _, (fun c o h => by cases h), fun b blk m hb hd hm => ?_, fun b1 b2 k1 k2 m1 m2 h1 h2 r1 r2 _ e1 e2 => ?_⟩
    · obtain ⟨q1, q2, arr, T, fz, q3, q4⟩ := h0 b blk m hb hd hm
      exact ⟨arr, T, fz, q3, q4, (fun e => by rw [q1] at e; cases e), fun _ => q2⟩
    · have := (h0 b1 k1 m1 h1 (by rw [r1]; decide) e1).1
      rw [r1] at this; cases this
  refine (h (fun _ => none) W H1.length μ W args' (Nat.le_refl _) ⟨sim, fun b hb _ => hμ b hb⟩ hv).mono fun e w' he => ?_
  obtain ⟨v', ν', rfl, hS, hV, _⟩ := he
  exact ⟨⟨ν', v', rfl, hV⟩, hS.sim.base⟩
end Go.Cs
