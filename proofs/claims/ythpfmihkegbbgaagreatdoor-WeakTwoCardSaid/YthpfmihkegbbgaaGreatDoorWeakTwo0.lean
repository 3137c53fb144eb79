/- A part of the proof: WeakTwo returns true for every input: Kept and Waiting return the kept objects of the document; after Clear with these no weak reference of a kept object leads to one that is not kept, and a second Clear has no effect (P19.1, P19.2) Conditions: none. -/
import Derived.Calls
import Derived.Orders
import Derived.Below
import Derived.Laws.AppendOwn
import Derived.MapKept
import Derived.Laws.StructEq
import Derived.Laws.Cover3
import Derived.Laws.Pointers
import Derived.Laws.MakeOwn
import Derived.ChangeKeysEq
import Derived.RangeFuncIn
import Derived.RangeFuncLeaves
import Derived.RangeFuncRecord
import Derived.OrdersIn
set_option linter.unusedVariables false
set_option linter.unusedSimpArgs false
set_option linter.defProp false
set_option maxRecDepth 100000
namespace Go.Cs
theorem oM{p:Prop}(h:p:=by omega):p:=h
theorem dK{p:Prop}(h:p:=by decide +kernel):p:=h
theorem sM{p:Prop}(h:p:=by simp):p:=h
theorem dE{p:Prop}(h:p:=by decide):p:=h
end Go.Cs
namespace Go.Cs
def Gx:=@Option.some.injEq
def GR:=@Option.map_eq_some_iff
def Jt:=@Option.bind_eq_some_iff
def J9:=@List.getElem?_eq_getElem
def JU:=@List.getElem?_set_ne
def KI:=@List.getElem?_set_self
def Qc:=@List.getD_eq_getElem?_getD
def QN:=@List.getElem?_append_left
def M_:=@List.getElem?_append_right
def En:=@List.getElem?_eq_none
def Ke:=@List.getElem?_map
def Ni:=@List.getElem?_eq_some_iff
def N7:=@Array.getElem?_eq_some_iff
def JH:=@Nat.lt_of_lt_of_le
def Jr:=@Nat.le_trans
def JX:=@List.mem_of_getElem?
def NC:=@List.mem_cons_self
def Um:=@List.mem_cons_of_mem
def NW:=@List.take_of_length_le
def Ghq:=@List.drop_of_length_le
def Nq:=@List.length_append
def K6:=@Int.toNat_natCast
def GC:=@decide_eq_false
def GK:=@decide_eq_true
def Lu:=@List.getElem?_set
def GbG:=@List.getElem?_append
def BQ:=@List.length_pos_iff
def YX:=@List.mem_map
def NG:=@List.mem_append
def Uy:=@List.mem_singleton
def Bo:=@List.eq_nil_of_length_eq_zero
def JQ:=@Bool.and_eq_true
def OL:=@List.find?_some
def QU:=@Nat.lt_or_ge
def ZG:=@List.getElem?_range
def Wu:=@List.length_map
def VZ:=@beq_eq_false_iff_ne
def Ze:=@List.getElem?_take
def Yo:=@List.getElem?_drop
def O1:=@Array.getElem?_eq_getElem
def EM:=@Array.getElem?_toList
def GhB:=@Array.size_setIfInBounds
def GjL:=@Array.getElem?_setIfInBounds_ne
def XE:=@List.map_append
def QL:=@List.take_add_one
def VT:=@Option.toList_some
end Go.Cs
namespace Go.Cs
open Go
inductive CV where
 |int (k:IntKind) (n:Int)
 |bool (b:Bool)
 |ptr (b o:Nat)
 |nilPtr
 |slice (b o len cap Jf:Nat) (tail:Bool)
 |Gf
 |func (f:Nat) (caps:List CV)
 |nilFunc
 |GU (b:Nat)
 |Uz
 |iface (t:Nat) (x:CV)
 |nilIface
 |GaC (name:String) (x:CV)
 |yld (b:Nat)
 |agg (cs:List CV)
 |Ju (vs:List CV)
 deriving Inhabited
abbrev CV.undef:CV:=.Ju []
abbrev CV.i(n:Int):CV:=.int .i64 n
inductive Mode where
 |rw|ro|dead|map
 deriving DecidableEq,Inhabited
structure JI where
 cells:List CV
 mode:Mode
 Jf:Nat
 deriving Inhabited
abbrev Gb:=List JI
def cellsOf:CV→List CV
 |.agg cs=>cs
 |v=>[v]
def leaf:CV→Bool
 |.agg _|.Ju _=>false
 |_=>true
def splice(l:List CV)(o:Nat)(vs:List CV):List CV:=l.take o++vs++l.drop (o+vs.length)
def QF(H:Gb)(b o:Nat):Option CV:=
 match H[b]? with
 |some blk=>if blk.mode=.dead∨blk.mode=.map then none else blk.cells[o]?
 |none=>none
def Km(H:Gb)(b o n:Nat):Option (List CV):=
 match H[b]? with
 |some blk=>if blk.mode=.dead∨blk.mode=.map then none else if o+n≤blk.cells.length then some ((blk.cells.drop o).take n)else none
 |none=>none
def Qq(H:Gb)(b o:Nat)(vs:List CV):Option Gb:=
 match H[b]? with
 |some blk=>if blk.mode=.rw∧o+vs.length≤blk.cells.length∧vs.all leaf=true then some (H.set b {blk with cells:=splice blk.cells o vs})else none
 |none=>none
inductive J7 where
 |tmp (t:Nat)
 |const (v:CV)
 deriving Inhabited
abbrev Env:=Nat→CV
def Env.ev(E:Env):J7→CV
 |.tmp t=>E t
 |.const v=>v
def Env.upd(E:Env)(d:Nat)(v:CV):Env:=fun t=>if t=d then v else E t
def Env.put(E:Env)(d:Option Nat)(v:CV):Env:=
 match d with
 |some d=>E.upd d v
 |none=>E
inductive Ko where
 |K7 (x:J7)
 |pick (c a b:J7)
 |new (cells:List CV)
 |box (x:J7)
 |build (zero:List CV) (parts:List (Nat×Nat×J7))
 |buildSlice (Jf:Nat) (cells:List CV) (len:Nat) (parts:List (Nat×Nat×J7))
 |load (agg:Bool) (n:Nat) (a:J7)
 |store (n:Nat) (a v:J7)
 |nilCheck (x:J7)
 |bin (op:BinOp) (x y:J7)
 |shift (op:BinOp) (x y:J7)
 |conv (k:IntKind) (x:J7)
 |mm (big:Bool) (l:List J7)
 |Qp (n Jf:Nat) (x i:J7)
 |XH (l:List Nat) (i:J7)
 |Ga0 (n:Nat) (x i:J7)
 |eqv (neg:Bool) (ty:Nat) (x y:J7)
 |eqs (neg:Bool) (n:Nat) (x y:J7)
 |eqb (neg:Bool) (n:Nat) (x y:J7)
 |not (x:J7)
 |NY (f:Nat) (caps:List J7)
 |makeSlice (Jf:Nat) (zero:List CV) (l c:J7)
 |slice (Jf:Nat) (x:J7) (lo hi mx:Option J7)
 |field (off:Nat) (x:J7)
 |index (Jf:Nat) (x i:J7)
 |extract (x:J7) (i:Nat)
 |len (x:J7)
 |append (Jf:Nat) (s x:J7)
 |copy (Jf:Nat) (d s:J7)
 |clear (zero:List CV) (s:J7)
 |call (f:Nat) (args:List J7)
 |AX (g:J7) (args:List J7)
 |Sg (t:Nat) (x:J7)
 |I6 (name:String) (x:J7)
 |Nz (g:J7) (args:List J7) (EL:List (Nat×String×Nat))
 |RP (name:String) (x:J7) (args:List J7) (EL:List (Nat×String×Nat))
 |Vg
 |Qo (ok:Bool) (k:IntKind) (zero:CV) (m x:J7)
 |ZU (m:J7)
 |QY (k:IntKind) (m x v:J7)
 |VE (k:IntKind) (m x:J7)
 |Vf (m:J7)
 |Fq (x:J7)
 |KL (g:Nat) (x:J7)
 deriving Inhabited
def Kk(op:BinOp)(k:IntKind)(a b:Int):Option CV:=
 match op with
 |.add=>some (.int k (k.wrap (a+b)))
 |.sub=>some (.int k (k.wrap (a-b)))
 |.mul=>some (.int k (k.wrap (a*b)))
 |.quo=>if b=0 then none else some (.int k (k.wrap (a.tdiv b)))
 |.rem=>if b=0 then none else some (.int k (a.tmod b))
 |.eql=>some (.bool (a==b))
 |.neq=>some (.bool (a != b))
 |.lss=>some (.bool (decide (a<b)))
 |.leq=>some (.bool (decide (a≤b)))
 |.gtr=>some (.bool (decide (a>b)))
 |.geq=>some (.bool (decide (a≥b)))
 |.and=>some (.int k (k.wrap (BitVec.ofInt k.bits a &&& BitVec.ofInt k.bits b).toNat))
 |.or=>some (.int k (k.wrap (BitVec.ofInt k.bits a ||| BitVec.ofInt k.bits b).toNat))
 |.xor=>some (.int k (k.wrap (BitVec.ofInt k.bits a ^^^ BitVec.ofInt k.bits b).toNat))
 |.andNot=>some (.int k (k.wrap (BitVec.ofInt k.bits a &&& ~~~BitVec.ofInt k.bits b).toNat))
 |_=>none
def shiftOp(op:BinOp)(k:IntKind)(a b:Int):Option CV:=
 if b<0 then none else
 match op with
 |.shl=>some (.int k (k.wrap (a*2 ^ min b.toNat k.bits)))
 |.shr=>some (.int k (a.fdiv (2 ^ min b.toNat k.bits)))
 |_=>none
def mm2(big:Bool):CV→CV→Option CV
 |.int k x,.int _ y=>some (.int k (if big then(if y>x then y else x)else(if y<x then y else x)))
 |_,_=>none
def GgY(big:Bool):List CV→Option CV
 |[]=>none
 |x::r=>r.foldlM (mm2 big) x
def Vp:List CV→List CV→Option Bool
 |[],[]=>some true
 |.bool a::r,.bool b::r'=>(Vp r r').map fun t=>(a==b)&&t
 |_,_=>none
def Nv:List CV→List CV→Option Bool
 |[],[]=>some true
 |.int k a::r,.int k' b::r'=>if k=k' then(Nv r r').map fun t=>(a==b)&&t else none
 |_,_=>none
def MG:Nat→CV→CV→Option Bool
 |0,.bool a,.bool b=>some (a==b)
 |1,.nilPtr,.nilPtr=>some true
 |1,.nilPtr,.ptr _ _=>some false
 |1,.ptr _ _,.nilPtr=>some false
 |2,.Gf,.Gf=>some true
 |2,.Gf,.slice .. =>some false
 |2,.slice ..,.Gf=>some false
 |_,_,_=>none
def fill(cells:List CV):List (Nat×Nat×CV)→Option (List CV)
 |[]=>some cells
 |(off,size,v)::rest=>if(cellsOf v).length=size∧off+size≤cells.length then fill (splice cells off (cellsOf v)) rest else none
def KN(E:Env)(ps:List (Nat×Nat×J7)):List (Nat×Nat×CV):=ps.map fun p=>(p.1,p.2.1,E.ev p.2.2)
abbrev JG:Nat:=16777216
def elems(H:Gb)(Jf:Nat):CV→Option (Nat×List CV)
 |.Gf=>some (0,[])
 |.slice b o len _ _ _=>if len=0 then some (0,[])else(Km H b o (len*Jf)).map fun cs=>(len,cs)
 |_=>none
def NH(H:Gb)(Jf:Nat)(s:CV)(n:Nat)(new:List CV):Option (Option JI×(Nat→CV)):=
 match s with
 |.Gf=>if n=0 then some (none,fun _=>s)else if n≤JG then some (some ⟨new,.rw,Jf⟩,fun k=>.slice k 0 n n Jf true)else none
 |.slice b o len cap e tail=>
  if n=0 then some (none,fun _=>s)
  else if tail=false∧cap<len+n∧len+n≤JG then
   (if len=0 then some []else Km H b o (len*Jf)).map fun old=>(some ⟨old++new,.rw,Jf⟩,fun k=>.slice k 0 (len+n) (len+n) Jf true)
  else none
 |_=>none
def Jv(H:Gb)(Jf:Nat)(s:CV)(n:Nat)(new:List CV):Option (CV×Gb):=
 match s with
 |.Gf=>if n=0 then some (s,H)else if n≤JG then some (.slice H.length 0 n n Jf true,H++[⟨new,.rw,Jf⟩])else none
 |.slice b o len cap e tail=>
  if n=0 then some (s,H)
  else if len+n≤cap then(Qq H b (o+len*Jf) new).map fun H'=>(.slice b o (len+n) cap e tail,H')
  else if len+n≤JG then
   (if len=0 then some []else Km H b o (len*Jf)).bind fun old=>
    if tail then
     match H[b]? with
     |some blk=>if blk.mode=.rw∧e=Jf∧o+cap*Jf=blk.cells.length∧new.all leaf=true then
      some (.slice H.length 0 (len+n) (len+n) Jf true,H.set b {blk with mode:=.dead}++[⟨old++new,.rw,Jf⟩])else none
     |none=>none
    else some (.slice H.length 0 (len+n) (len+n) Jf true,H++[⟨old++new,.rw,Jf⟩])
  else none
 |_=>none
def Uu(k:IntKind)(n:Int):List CV→Nat→Option (Option (Nat×CV))
 |[],_=>some none
 |.Ju [.int k' n',v]::r,i=>if k=k' then(if n==n' then some (some (i,v))else Uu k n r (i+1))else none
 |_::_,_=>none
def Qy:List CV→List CV
 |[.agg es]=>es
 |es=>es
def VY:List CV→Bool
 |[.agg _]=>true
 |_=>false
def entriesOf(H:Gb):CV→Option (List CV)
 |.Uz=>some []
 |.GU b=>match H[b]? with
  |some blk=>if blk.mode=.map∧blk.Jf=0 then some (Qy blk.cells)else none
  |none=>none
 |_=>none
def mapOf(H:Gb):CV→Option (Nat×List CV)
 |.GU b=>match H[b]? with
  |some ⟨es,.map,0⟩=>if VY es then none else some (b,es)
  |_=>none
 |_=>none
def Q5(H:Gb)(ok:Bool)(k:IntKind)(zero m x:CV):Option CV:=
 match x with
 |.int k' n=>if k=k' then(entriesOf H m).bind fun es=>(Uu k n es 0).map fun r=>
   match r with
   |some (_,v)=>if ok then .Ju [v,.bool true]else v
   |none=>if ok then .Ju [zero,.bool false]else zero
  else none
 |_=>none
def J2(H:Gb)(b:Nat)(es:List CV):Option Gb:=
 match H[b]? with
 |some blk=>if blk.mode=.map∧blk.Jf=0∧VY blk.cells=false then some (H.set b {blk with cells:=es})else none
 |none=>none
def Q6(H:Gb)(k:IntKind)(m x v:CV):Option Gb:=
 match m,x with
 |.GU b,.int k' n=>if k=k'∧leaf v=true then(entriesOf H m).bind fun es=>(Uu k n es 0).bind fun r=>
   match r with
   |some (i,_)=>J2 H b (es.set i (.Ju [.int k n,v]))
   |none=>J2 H b (es++[.Ju [.int k n,v]])
  else none
 |_,_=>none
def Qf(H:Gb)(k:IntKind)(m x:CV):Option Gb:=
 match m,x with
 |.GU b,.int k' n=>if k=k' then(entriesOf H m).bind fun es=>(Uu k n es 0).bind fun r=>
   match r with
   |some (i,_)=>J2 H b (es.eraseIdx i)
   |none=>J2 H b es
  else none
 |.Uz,.int k' _=>if k=k' then some H else none
 |_,_=>none
def bound(E:Env)(x:J7)(m:Nat):Option Nat:=
 match E.ev x with
 |.int _ i=>if 0≤i∧i≤(m:Int)then some i.toNat else none
 |_=>none
def Af(E:Env)(x:Option J7)(m d:Nat):Option Nat:=
 match x with
 |some v=>bound E v m
 |none=>some d
def Aw(E:Env)(len cap:Nat)(lo hi mx:Option J7):Option (Nat×Nat×Nat):=
 if mx.isSome=true∧hi.isNone=true then none else
 (Af E mx cap cap).bind fun m=>(Af E hi m len).bind fun h=>(Af E lo h 0).bind fun l=>some (l,h,m)
def sliceTo(E:Env)(Jf:Nat)(x:CV)(lo hi mx:Option J7):Option CV:=
 match x with
 |.Gf=>(Aw E 0 0 lo hi mx).map fun _=>.Gf
 |.slice b o len cap e tail=>if e=Jf∧len≤cap then(Aw E len cap lo hi mx).map fun r=>.slice b (o+r.1*Jf) (r.2.1-r.1) (r.2.2-r.1) e (tail&&mx.isNone)else none
 |_=>none
def GL(op:Ko)(E:Env)(H:Gb):Option (Option JI×(Nat→CV)):=
 match op with
 |.K7 x=>some (none,fun _=>E.ev x)
 |.pick c a b=>match E.ev c with|.bool t=>some (none,fun _=>if t then E.ev a else E.ev b)|_=>none
 |.new cells=>some (some ⟨cells,.rw,0⟩,fun k=>.ptr k 0)
 |.Vg=>some (some ⟨[],.map,0⟩,fun k=>.GU k)
 |.box x=>some (some ⟨cellsOf (E.ev x),.rw,0⟩,fun k=>.ptr k 0)
 |.build zero parts=>(fill zero (KN E parts)).map fun cs=>(none,fun _=>.agg cs)
 |.buildSlice Jf cells len parts=>(fill cells (KN E parts)).map fun cs=>(some ⟨cs,.rw,Jf⟩,fun k=>.slice k 0 len len Jf false)
 |.load agg n a=>match E.ev a with
  |.ptr b o=>if agg then(Km H b o n).map fun cs=>(none,fun _=>.agg cs)else(QF H b o).map fun v=>(none,fun _=>v)
  |_=>none
 |.nilCheck x=>match E.ev x with
  |.ptr b o=>some (none,fun _=>.ptr b o)
  |.iface t c=>some (none,fun _=>.iface t c)
  |_=>none
 |.Sg t x=>some (none,fun _=>.iface t (E.ev x))
 |.I6 name x=>some (none,fun _=>.GaC name (E.ev x))
 |.bin op x y=>match E.ev x,E.ev y with
  |.int k a,.int k' b=>if k=k' then(Kk op k a b).map fun v=>(none,fun _=>v)else none
  |_,_=>none
 |.shift op x y=>match E.ev x,E.ev y with
  |.int k a,.int _ b=>(shiftOp op k a b).map fun v=>(none,fun _=>v)
  |_,_=>none
 |.conv k x=>match E.ev x with|.int _ n=>some (none,fun _=>.int k (k.wrap n))|_=>none
 |.mm big l=>(GgY big (l.map E.ev)).map fun v=>(none,fun _=>v)
 |.Qp n Jf x i=>match E.ev x,E.ev i with
  |.ptr b o,.int _ i=>if 0≤i∧i<(n:Int)then some (none,fun _=>.ptr b (o+i.toNat*Jf))else none
  |_,_=>none
 |.XH l i=>match E.ev i with
  |.int _ i=>if 0≤i then(l[i.toNat]?).map fun(v:Nat)=>(none,fun _=>CV.int .u8 (v:Int))else none
  |_=>none
 |.Ga0 n x i=>match E.ev x,E.ev i with
  |.agg cs,.int _ i=>if 0≤i∧i<(n:Int)then(cs[i.toNat]?).map fun v=>(none,fun _=>v)else none
  |_,_=>none
 |.eqb neg n x y=>match E.ev x,E.ev y with
  |.agg xs,.agg ys=>if xs.length=n then(Vp xs ys).map fun t=>(none,fun _=>.bool (if neg then !t else t))else none
  |_,_=>none
 |.eqv neg ty x y=>(MG ty (E.ev x) (E.ev y)).map fun t=>(none,fun _=>.bool (if neg then !t else t))
 |.eqs neg n x y=>match E.ev x,E.ev y with
  |.agg xs,.agg ys=>if xs.length=n then(Nv xs ys).map fun t=>(none,fun _=>.bool (if neg then !t else t))else none
  |_,_=>none
 |.not x=>match E.ev x with|.bool t=>some (none,fun _=>.bool !t)|_=>none
 |.NY f caps=>some (none,fun _=>.func f (caps.map E.ev))
 |.makeSlice Jf zero l c=>match E.ev l,E.ev c with
  |.int .i64 l,.int .i64 c=>if 0≤l∧l≤c∧c≤(JG:Int)then
   some (some ⟨(List.replicate c.toNat zero).flatten,.rw,Jf⟩,fun k=>.slice k 0 l.toNat c.toNat Jf false)else none
  |_,_=>none
 |.slice Jf x lo hi mx=>(sliceTo E Jf (E.ev x) lo hi mx).map fun v=>(none,fun _=>v)
 |.field off x=>match E.ev x with|.ptr b o=>some (none,fun _=>.ptr b (o+off))|_=>none
 |.index Jf x i=>match E.ev x,E.ev i with
  |.slice b o len _ _ _,.int _ i=>if 0≤i∧i<(len:Int)then some (none,fun _=>.ptr b (o+i.toNat*Jf))else none
  |_,_=>none
 |.extract x i=>match E.ev x with|.Ju vs=>vs[i]?.map fun v=>(none,fun _=>v)|_=>none
 |.len x=>match E.ev x with
  |.slice _ _ len _ _ _=>some (none,fun _=>.i len)
  |.Gf=>some (none,fun _=>.i 0)
  |_=>none
 |.append Jf s x=>(elems H Jf (E.ev x)).bind fun p=>NH H Jf (E.ev s) p.1 p.2
 |.Qo ok k z m x=>(Q5 H ok k z (E.ev m) (E.ev x)).map fun v=>(none,fun _=>v)
 |.ZU m=>(entriesOf H (E.ev m)).map fun es=>(none,fun _=>.i es.length)
 |.store .. |.copy .. |.clear .. |.call .. |.AX .. |.Nz .. |.RP .. |.QY .. |.VE .. |.Vf .. |.Fq .. |.KL .. =>none
def Xk(a:Int):List Int→List Int
 |[]=>[a]
 |b::l=>if a≤b then a::b::l else b::Xk a l
def Qd:List Int→List Int
 |[]=>[]
 |a::l=>Xk a (Qd l)
def Hg(n:Int):Bool:=decide (-9223372036854775808≤n)&&decide (n≤9223372036854775807)
def LZ:List CV→Option (List Int)
 |[]=>some []
 |.int .i64 n::r=>(LZ r).map (n::·)
 |_::_=>none
def keysOf:List CV→Option (List Int)
 |[]=>some []
 |.Ju [.int .i64 n,_]::r=>(keysOf r).map (n::·)
 |_::_=>none
def made(H:Gb)(m:Option JI×(Nat→CV)):CV×Gb:=
 match m.1 with
 |none=>(m.2 H.length,H)
 |some b=>(m.2 H.length,H++[b])
def Vu(op:Ko)(E:Env)(H:Gb):Option (CV×Gb):=
 match op with
 |.store n a v=>match E.ev a with
  |.ptr b o=>if(cellsOf (E.ev v)).length=n then(Qq H b o (cellsOf (E.ev v))).map fun H'=>(.undef,H')else none
  |_=>none
 |.append Jf s x=>(elems H Jf (E.ev x)).bind fun p=>Jv H Jf (E.ev s) p.1 p.2
 |.copy Jf d s=>match E.ev d,E.ev s with
  |.slice b o len _ _ _,.slice b' o' len' _ _ _=>
   if min len' len=0 then some (.i 0,H)else
   (Km H b' o' (min len' len*Jf)).bind fun cs=>(Qq H b o cs).map fun H'=>(.i (min len' len:Nat),H')
  |.Gf,.slice .. =>some (.i 0,H)
  |.slice ..,.Gf=>some (.i 0,H)
  |.Gf,.Gf=>some (.i 0,H)
  |_,_=>none
 |.clear zero s=>match E.ev s with
  |.slice b o len _ _ _=>if len=0 then some (.Ju [],H)else(Qq H b o (List.replicate len zero).flatten).map fun H'=>(.Ju [],H')
  |.Gf=>some (.Ju [],H)
  |_=>none
 |.QY k m x v=>(Q6 H k (E.ev m) (E.ev x) (E.ev v)).map fun H'=>(.undef,H')
 |.VE k m x=>(Qf H k (E.ev m) (E.ev x)).map fun H'=>(.Ju [],H')
 |.Vf m=>match E.ev m with
  |.GU b=>(J2 H b []).map fun H'=>(.Ju [],H')
  |.Uz=>some (.Ju [],H)
  |_=>none
 |.Fq x=>match E.ev x with
  |.slice b o len _ e _=>if len=0 then some (.Ju [],H)else if e=1∧len≤JG then(Km H b o len).bind fun cs=>(LZ cs).bind fun l=>(Qq H b o ((Qd l).map .i)).map fun H'=>(.Ju [],H')else none
  |.Gf=>some (.Ju [],H)
  |_=>none
 |.KL g x=>match E.ev x with
  |.func f [.ptr b 0]=>if f=g then match H[b]? with
    |some ⟨[m],.rw,0⟩=>(mapOf H m).bind fun y=>(keysOf y.2).bind fun l=>
     if l.length=0 then some (.Gf,H)else if l.length≤JG∧l.all Hg=true then some (.slice H.length 0 l.length l.length 1 true,H++[⟨(Qd l).map .i,.rw,1⟩])else none
    |_=>none
   else none
  |_=>none
 |op=>(GL op E H).map (made H)
structure GZ where
 dst:Option Nat
 guard:Option (Nat×Bool)
 op:Ko
 deriving Inhabited
structure GQ where
 s:GZ
 no:Nat
 kind:Nat
 low:Nat
 deriving Inhabited
structure RM where
 m:J7
 it:Nat
 nx:Nat
 more:Nat
 pair:Nat
 id:Nat
 live:List Nat
 deriving Inhabited
inductive Gu where
 |skip
 |region (ops:List GZ)
 |QC (ops:List GQ)
 |seq (a b:Gu)
 |cond (c:J7) (a b:Gu)
 |block (id:Nat) (c:Gu)
 |loop (c:Gu)
 |Qb (g:J7) (ps:List Nat) (n z:Nat)
 |YO (q:RM) (body rest:Gu)
 |exit (id:Nat)
 |ret
 deriving Inhabited
inductive VH where
 |tmp (t:Nat)
 |cell (t:Nat) (agg:Bool) (n:Nat)
 deriving Inhabited
structure Gm where
 n:Nat
 round:Nat
 body:Gu
 res:List VH
 deriving Inhabited
abbrev JD:=Nat→Option Gm
inductive CX where
 |normal
 |exit (id:Nat)
 |ret
 deriving DecidableEq,Inhabited
def wanted(g:Option (Nat×Bool))(E:Env):Bool:=
 match g with
 |none=>true
 |some (t,want)=>match E t with
  |.bool b=>b==want
  |_=>false
abbrev Jp:=Nat→List CV→Gb→Option (CV×Gb)
def Zk(EL:List (Nat×String×Nat))(t:Nat)(name:String):Option Nat:=(EL.find? fun e=>e.1==t&&e.2.1==name).map (·.2.2)
def Jk(s:Int)(ps env:List CV)(z:Nat):JI:=⟨[.i s,.Ju ps,.Ju env],.map,z+1⟩
def U0(env:List CV):List CV→List CV→List CV
 |.int _ t::ps,v::vs=>U0 (env.set t.toNat v) ps vs
 |_,_=>env
abbrev RB:Nat:=1000000
def KO(F:Jp)(b z:Nat)(r:CV×Gb):Option (CV×Gb):=
 match r.1,r.2[b]? with
 |.Ju env,some ⟨[.int .i64 s,.Ju ps,.Ju e0],.map,z0+1⟩=>
  if s=0∧z0=z then
   (F (RB+z+1) env (r.2.set b (Jk 1 ps e0 z))).bind fun r=>
    match r.1,r.2[b]? with
    |.int .i64 j,some ⟨[.int .i64 _,.Ju ps',.Ju env'],.map,z'+1⟩=>some (.bool (j==0),r.2.set b (Jk (if j=0 then 0 else j+1) ps' env' z'))
    |_,_=>none
  else none
 |_,_=>none
def yieldOf(F:Jp)(b:Nat)(args:List CV)(H:Gb):Option (CV×Gb):=
 match H[b]? with
 |some ⟨[.int .i64 s,.Ju ps,.Ju env],.map,z+1⟩=>
  if s=0∧args.length=ps.length then(F (RB+z) (U0 env ps args) H).bind (KO F b z)else none
 |_=>none
def K3(F:Jp)(op:Ko)(E:Env)(H:Gb):Option (CV×Gb):=
 match op with
 |.call f args=>F f (args.map E.ev) H
 |.AX g args=>match E.ev g with
  |.func f caps=>if f<RB then F f (args.map E.ev++caps) H else none
  |.yld b=>yieldOf F b (args.map E.ev) H
  |_=>none
 |.Nz g args EL=>match E.ev g with
  |.func f caps=>if f<RB then F f (args.map E.ev++caps) H else none
  |.GaC name (.iface t x)=>(Zk EL t name).bind fun f=>F f (x::args.map E.ev) H
  |.yld b=>yieldOf F b (args.map E.ev) H
  |_=>none
 |.RP name x args EL=>match E.ev x with
  |.iface t x=>(Zk EL t name).bind fun f=>F f (x::args.map E.ev) H
  |_=>none
 |op=>Vu op E H
def QE(F:Jp)(s:GZ)(E:Env)(H:Gb):Option (Env×Gb):=
 if wanted s.guard E then(K3 F s.op E H).map fun p=>(E.put s.dst p.1,p.2)else some (E.put s.dst .undef,H)
def K4(F:Jp):List GZ→Env→Gb→Option (Env×Gb)
 |[],E,H=>some (E,H)
 |s::r,E,H=>(QE F s E H).bind fun p=>K4 F r p.1 p.2
open Classical in
noncomputable def AL(F:Jp):List GQ→Env→Gb→List Gb→Option (Env×Gb)
 |[],E,H,_=>some (E,H)
 |d::r,E,H,hs=>
  if wanted d.s.guard E=false then AL F r (E.put d.s.dst .undef) H (if d.kind=3 then H::hs else hs)
  else if d.kind=3 then(K3 F d.s.op E H).bind fun p=>AL F r (E.put d.s.dst p.1) p.2 (H::hs)
  else(GL d.s.op E H).bind fun m=>
   if d.kind=1→∀H'∈hs.take (hs.length-d.low),GL d.s.op E H'=some m then
    AL F r (E.put d.s.dst (made H m).1) (made H m).2 hs else none
def entry(args:List CV):Env:=fun t=>args.getD t .undef
def FQ(E:Env)(H:Gb):VH→Option CV
 |.tmp t=>some (E t)
 |.cell t agg n=>match E t with
  |.ptr b o=>if agg then(Km H b o n).map .agg else QF H b o
  |_=>none
def Qn(E:Env)(H:Gb):List VH→Option (List CV)
 |[]=>some []
 |r::rs=>(FQ E H r).bind fun v=>(Qn E H rs).map (v::·)
def results(cf:Gm)(E:Env)(H:Gb):Option CV:=
 (Qn E H cf.res).map fun|[v]=>v|vs=>.Ju vs
def CX.code:CX→Int
 |.normal=>0
 |.ret=>1
 |.exit id=>id+2
def leave(cf:Gm)(r:CX×Env×Gb):Option (CV×Gb):=
 if cf.round=2 then some (.i r.1.code,r.2.2)else
 if cf.round=1 then(match r.1 with|.normal=>some (.Ju ((List.range cf.n).map r.2.1),r.2.2)|_=>none)else
 match r.1 with
 |.normal|.ret=>(results cf r.2.1 r.2.2).map fun v=>(v,r.2.2)
 |.exit _=>none
def CX.inBlock(id:Nat):CX→CX
 |.exit id'=>if id'=id then .normal else .exit id'
 |x=>x
def Ny(F:Jp)(g:CV)(ps:List Nat)(n z:Nat)(E:Env)(H:Gb):Option (CV×Gb):=
 match g with
 |.func f caps=>if f<RB then F f (.yld H.length::caps) (H++[Jk 0 (ps.map fun(t:Nat)=>CV.i (t:Int)) ((List.range n).map E) z])else none
 |_=>none
def Uq(E:Env)(b:Nat)(r:CV×Gb):Option (CX×Env×Gb):=
 match r.2[b]? with
 |some ⟨[.int .i64 s,.Ju _,.Ju _],.map,_+1⟩=>
  if s=0 then some (.normal,E,r.2.set b ⟨[],.dead,0⟩)
  else if s=2 then some (.ret,E,r.2.set b ⟨[],.dead,0⟩)
  else if 3≤s then some (.exit (s-3).toNat,E,r.2.set b ⟨[],.dead,0⟩)
  else none
 |_=>none
def RM.beg(q:RM)(e:CV)(E:Env):Env:=
 match e with
 |.Ju [k,v]=>((E.upd q.nx (.Ju [.bool true,k,v])).upd q.more (.bool true)).upd q.pair (.Ju [k,v])
 |_=>E
def RM.fin(q:RM)(E:Env):Env:=(E.upd q.nx (.Ju [.bool false])).upd q.more (.bool false)
open Classical in
noncomputable def K5(R:Env→Gb→Option (CX×Env×Gb))(q:RM)(mb:Nat)(es:List CV)(it:Nat):List CV→Env→Gb→Option (CX×Env×Gb)
 |[],E,H=>some (.normal,q.fin E,H)
 |e::l,E,H=>(R (q.beg e E) H).bind fun r=>
  if r.2.2[mb]?=some ⟨[.agg es],.map,0⟩∧r.2.1 q.it=.ptr it 0 then
   match r.1 with
   |.normal=>K5 R q mb es it l r.2.1 r.2.2
   |_=>some r
  else none
def NJ(id:Nat)(R:Env→Gb→Option (CX×Env×Gb))(r:CX×Env×Gb):Option (CX×Env×Gb):=
 match r.1.inBlock id with
 |.normal=>R r.2.1 r.2.2
 |x=>some (x,r.2.1,r.2.2)
def KP(n:Nat)(H:Gb):Gb:=H.take n++List.replicate (H.length-n) ⟨[],.dead,0⟩
def Ol(live:List Nat)(E:Env):Env:=fun t=>if live.contains t then E t else .undef
noncomputable def KH(Rb Rr:Env→Gb→Option (CX×Env×Gb))(q:RM)(mb:Nat)(es:List CV)(E:Env)(H:Gb)(l:List CV):Option (CX×Env×Gb):=
 ((K5 Rb q mb es H.length l (E.upd q.it (.ptr H.length 0)) (H.set mb ⟨[.agg es],.map,0⟩++[⟨[],.dead,0⟩])).bind fun r=>NJ q.id Rr (r.1,r.2.1,r.2.2.set mb ⟨es,.map,0⟩)).map
  fun r=>(r.1,Ol q.live r.2.1,KP H.length r.2.2)
open Classical in
noncomputable def Qz(Rb Rr:Env→Gb→Option (CX×Env×Gb))(q:RM)(m:CV)(E:Env)(H:Gb):Option (CX×Env×Gb):=
 (mapOf H m).bind fun y=>if h:∃r,∀l,l.Perm y.2→KH Rb Rr q y.1 y.2 E H l=some r then some h.choose else none
noncomputable def ev(p:JD):Nat→Gu→Env→Gb→Option (CX×Env×Gb)
 |0,_,_,_=>none
 |n+1,c,E,H=>
  let F:Jp:=fun f args H=>(p f).bind fun cf=>if args.length≤cf.n then(ev p n cf.body (entry args) H).bind (leave cf)else none
  match c with
  |.skip=>some (.normal,E,H)
  |.region ops=>(K4 F ops E H).map fun q=>(.normal,q.1,q.2)
  |.QC ops=>(AL F ops E H []).map fun q=>(.normal,q.1,q.2)
  |.seq a b=>(ev p n a E H).bind fun r=>match r.1 with|.normal=>ev p n b r.2.1 r.2.2|_=>some r
  |.cond c a b=>match E.ev c with|.bool t=>ev p n (if t then a else b) E H|_=>none
  |.block id c=>(ev p n c E H).map fun r=>(r.1.inBlock id,r.2)
  |.loop c=>(ev p n c E H).bind fun r=>match r.1 with|.normal=>ev p n (.loop c) r.2.1 r.2.2|_=>some r
  |.Qb g ps k z=>(Ny F (E.ev g) ps k z E H).bind (Uq E H.length)
  |.YO q b r=>Qz (ev p n b) (ev p n r) q (E.ev q.m) E H
  |.exit id=>some (.exit id,E,H)
  |.ret=>some (.ret,E,H)
noncomputable def Kq(p:JD)(n:Nat):Jp:=fun f args H=>(p f).bind fun cf=>if args.length≤cf.n then(ev p n cf.body (entry args) H).bind (leave cf)else none
end Go.Cs
namespace Go.Cs
open Go
def Yf:Value→Option CV
 |.bool b=>some (.bool b)
 |.int k n=>some (.int k n)
 |.pointer none=>some .nilPtr
 |.slice none 0 0=>some .Gf
 |.nilFunc=>some .nilFunc
 |.map none=>some .Uz
 |.nilIface=>some .nilIface
 |_=>none
def J3{α:Type}:List (Option α)→Option (List α)
 |[]=>some []
 |none::_=>none
 |some a::r=>(J3 r).map (a::·)
def QK:Operand→Option J7
 |.tmp t=>some (.tmp t)
 |.const v=>(Yf v).map .const
 |.func f=>some (.const (.func f []))
 |.global _=>none
def WR(l:Array Operand):Option (List J7):=J3 (l.toList.map QK)
def Ig:Option Operand→Option (Option J7)
 |none=>some none
 |some x=>(QK x).map some
def zeroOf(P:Program)(t:TypeId):Option (List CV):=
 (P.info? t).bind fun i=>i.zero.bind fun v=>J3 (v.cells.toList.map Yf)
def YC(P:Program)(t:TypeId):Option Bool:=
 (P.underlying t).map fun d=>match d with|.struct _|.array _ _=>true|_=>false
def Kt(P:Program)(t:TypeId):Option TypeId:=
 match P.underlying t with
 |some (.slice e)=>some e
 |_=>none
def Yh(P:Program)(t:TypeId):Bool:=
 match P.underlying t with
 |some (.struct fs)=>!P.stoodInHeld t&&!P.eqGuardType P.depth t&&
  fs.toList.zipIdx.all fun(f,i)=>f.name != "_" &&f.offset==i&&(match P.underlying f.type with|some (.int _)=>true|_=>false)
 |_=>false
def ET(P:Program)(t:TypeId):Option (IntKind×CV):=
 match P.underlying t with
 |some (.map k e)=>match P.underlying k,(P.info? e).bind (·.zero)with
  |some (.int kd),some v=>(Yf v).map fun z=>(kd,z)
  |_,_=>none
 |_=>none
def sizeT(P:Program)(t:TypeId):Option Nat:=(P.info? t).map (·.size)
def Mg(P:Program)(t:TypeId):Option Nat:=(P.info? t).map (·.bytes)
def VW(P:Program)(place:Nat→Option (Nat×Nat))(parts:Array (Nat×Operand)):Option (List (Nat×Nat×J7)):=
 J3 (parts.toList.map fun(i,x)=>(place i).bind fun q=>(QK x).map fun y=>(q.1,q.2,y))
def Rl(P:Program)(t:TypeId):Bool:=match P.underlying t with|some .bool=>true|_=>false
def Xj(s p:String)(n:Nat):Bool:=s.toList.take p.toList.length==p.toList&&s.toList.length==n
def GdH(s:String):Option (List Int):=
 if Xj s "dustcart/weak.headShape" 23 then some [8,1,3]else if Xj s "dustcart/weak.entryShape" 24 then some [3,1,2]else none
def ZW(P:Program)(g:Nat):Option (List Int):=(P.globals[g]?).bind fun x=>GdH x.name
def MJ(P:Program)(t:TypeId)(g:Nat):Option Ko:=(ZW P g).bind fun zs=>
 if YC P t=some true∧sizeT P t=some zs.length then some (.K7 (.const (.agg (zs.map (.int .i64)))))else none
def Qa{α:Type}(b:Bool)(x:Option α):Option α:=if b then x else none
def VU(P:Program):List (Nat×String×Nat):=
 (List.range P.types.size).flatMap fun t=>match P.info? t,P.underlying t with
  |some i,some (.struct fs)=>if fs.isEmpty then i.methods.toList.filterMap fun m0=>
    match i.methods.find? (fun m=>m.name==m0.name)with
    |some m=>match m.func with
     |some (f,false)=>if m.path.isEmpty&&decide (f<RB)then some (t,m0.name,f)else none
     |_=>none
    |none=>none
   else []
  |_,_=>[]
def I8(P:Program)(c:Call):Option Ko:=
 match c.callee with
 |.value (.func f)=>(WR c.args).bind fun l=>Qa (decide (f<RB)) (some (.call f l))
 |.value (.tmp t)=>(WR c.args).map fun l=>match VU P with|[]=>.AX (.tmp t) l|EL=>.Nz (.tmp t) l EL
 |.invoke recv name=>(QK recv).bind fun x=>(WR c.args).map fun l=>.RP name x l (VU P)
 |.builtin .delete=>match c.args.toList,c.argTypes[0]? with
  |[m,x],some t=>(ET P t).bind fun q=>(QK m).bind fun m=>(QK x).map fun x=>.VE q.1 m x
  |_,_=>none
 |.builtin .len=>match c.args.toList,c.argTypes[0]? with
  |[x],some t=>match ET P t with
   |some _=>(QK x).map .ZU
   |none=>(Kt P t).bind fun _=>(QK x).map .len
  |_,_=>none
 |.builtin .max=>match c.argTypes[0]? with
  |some t=>match P.underlying t with|some (.int _)=>(WR c.args).map (.mm true)|_=>none
  |none=>none
 |.builtin .min=>match c.argTypes[0]? with
  |some t=>match P.underlying t with|some (.int _)=>(WR c.args).map (.mm false)|_=>none
  |none=>none
 |.builtin .append=>match c.args.toList,c.argTypes.toList with
  |[s,x],[t,u]=>(Kt P t).bind fun e=>(Kt P u).bind fun _=>(sizeT P e).bind fun n=>(Mg P e).bind fun b=>(zeroOf P e).bind fun z=>
    (QK s).bind fun s=>(QK x).bind fun x=>Qa (decide (0<n)&&decide (0<b)&&decide (b≤4096)&&decide (z.length=n)) (some (.append n s x))
  |_,_=>none
 |.builtin .copy=>match c.args.toList,c.argTypes.toList with
  |[d,s],[t,u]=>(Kt P t).bind fun e=>(Kt P u).bind fun _=>(sizeT P e).bind fun n=>(QK d).bind fun d=>(QK s).map fun s=>.copy n d s
  |_,_=>none
 |.builtin .clear=>match c.args.toList,c.argTypes[0]? with
  |[s],some t=>match ET P t with
   |some _=>(QK s).map .Vf
   |none=>(Kt P t).bind fun e=>(zeroOf P e).bind fun z=>(QK s).map fun s=>.clear z s
  |_,_=>none
 |_=>none
def GX(P:Program)(op:Op):Option Ko:=
 match op with
 |.move x|.assign x=>(QK x).map .K7
 |.pick c a b=>(QK c).bind fun c=>(QK a).bind fun a=>(QK b).map fun b=>.pick c a b
 |.alloc t=>(zeroOf P t).map .new
 |.box _ x=>(QK x).map .box
 |.build t parts=>match P.underlying t with
  |some (.struct fs)=>(zeroOf P t).bind fun z=>(J3 (fs.toList.map fun f=>(sizeT P f.type).map fun n=>(f.offset,n))).bind fun pl=>
    (VW P (pl[·]?) parts).map fun ps=>.build z ps
  |some (.array _ e)=>(zeroOf P t).bind fun z=>(sizeT P e).bind fun n=>(VW P (fun i=>some (i*n,n)) parts).map fun ps=>.build z ps
  |_=>none
 |.buildSlice t len parts=>(Kt P t).bind fun e=>(sizeT P e).bind fun n=>(zeroOf P e).bind fun z=>
   (VW P (fun i=>some (i*n,n)) parts).bind fun ps=>
    Qa (decide (0<n)&&decide (z.length=n)&&decide (len*n≤65536)) (some (.buildSlice n (List.replicate len z).flatten len ps))
 |.load t (.global g)=>MJ P t g
 |.load t a=>(YC P t).bind fun g=>(sizeT P t).bind fun n=>(QK a).map fun a=>.load g n a
 |.store t a v=>(sizeT P t).bind fun n=>(QK a).bind fun a=>(QK v).map fun v=>.store n a v
 |.nilCheck x=>(QK x).map .nilCheck
 |.binOp op t x y _=>(QK x).bind fun x=>(QK y).bind fun y=>
   match P.underlying t with
   |some (.int _)=>(match op with|.shl=>some (.shift .shl x y)|.shr=>some (.shift .shr x y)|op=>some (.bin op x y))
   |some .bool=>(match op with|.eql=>some (.eqv false 0 x y)|.neq=>some (.eqv true 0 x y)|_=>none)
   |some (.pointer _)=>(match op with|.eql=>some (.eqv false 1 x y)|.neq=>some (.eqv true 1 x y)|_=>none)
   |some (.slice _)=>(match op with|.eql=>some (.eqv false 2 x y)|.neq=>some (.eqv true 2 x y)|_=>none)
   |some (.array l e)=>Qa (Rl P e&&sizeT P e==some 1&&YC P e==some false&&!P.eqGuardType P.depth t) (match op with|.eql=>some (.eqb false l x y)|.neq=>some (.eqb true l x y)|_=>none)
   |some (.struct fs)=>Qa (Yh P t) (match op with|.eql=>some (.eqs false fs.size x y)|.neq=>some (.eqs true fs.size x y)|_=>none)
   |_=>none
 |.unOp .not _ x=>(QK x).map .not
 |.makeFunc (.method name) first caps=>match first.toList with
  |[x]=>if caps.isEmpty then(QK x).map (.I6 name)else none
  |_=>none
 |.makeInterface t x=>match P.underlying t with
  |some (.struct _)=>(QK x).map (.Sg t)
  |_=>none
 |.makeFunc (.func f) first caps=>if first.isEmpty then(WR caps).map (.NY f)else none
 |.makeSlice t l c=>(Kt P t).bind fun e=>(sizeT P e).bind fun n=>(Mg P e).bind fun b=>(zeroOf P e).bind fun z=>(QK l).bind fun l=>(QK c).bind fun c=>
   Qa (decide (0<n)&&decide (z.length=n)&&decide (b≤4096)) (some (.makeSlice n z l c))
 |.slice t x lo hi mx=>(Kt P t).bind fun e=>(sizeT P e).bind fun n=>(QK x).bind fun x=>(Ig lo).bind fun lo=>(Ig hi).bind fun hi=>(Ig mx).map fun mx=>.slice n x lo hi mx
 |.fieldAddr s x f=>match P.underlying s with
  |some (.struct fs)=>(fs[f]?).bind fun fd=>(sizeT P fd.type).bind fun n=>(QK x).bind fun x=>Qa (decide (n≠0)) (some (.field fd.offset x))
  |_=>none
 |.index t (.const (.string s)) i=>match P.underlying t with
  |some .string=>(QK i).map (.XH (s.data.toList.map UInt8.toNat))
  |_=>none
 |.index t (.tmp x) i=>match P.underlying t with
  |some (.array l e)=>Qa (sizeT P e==some 1&&YC P e==some false) ((QK (.tmp x)).bind fun x=>(QK i).map fun i=>.Ga0 l x i)
  |_=>none
 |.indexAddr t x i=>match P.underlying t with
  |some (.array l e)=>(sizeT P e).bind fun n=>(QK x).bind fun x=>(QK i).map fun i=>.Qp l n x i
  |some (.slice e)=>(sizeT P e).bind fun n=>(QK x).bind fun x=>(QK i).map fun i=>.index n x i
  |_=>none
 |.convert s d x=>match P.underlying s,P.underlying d with
  |some (.int _),some (.int k)=>(QK x).map (.conv k)
  |_,_=>none
 |.makeMap t none=>(ET P t).map fun _=>.Vg
 |.lookup t m x ok=>(ET P t).bind fun q=>(QK m).bind fun m=>(QK x).map fun x=>.Qo ok q.1 q.2 m x
 |.mapUpdate t m x v=>(ET P t).bind fun q=>(QK m).bind fun m=>(QK x).bind fun x=>(QK v).map fun v=>.QY q.1 m x v
 |.extract x i=>(QK x).map fun x=>.extract x i
 |.call c=>I8 P c
 |_=>none
def UE(ops:Array Oper)(g:Option (Nat×Bool)):Option (Option (Nat×Bool)):=
 match g with
 |none=>some none
 |some (j,b)=>((ops[j]?).bind (·.dst)).map fun t=>some (t,b)
def Na(P:Program)(n:Nat)(ops:Array Oper)(o:Oper):Option GZ:=
 (UE ops o.guard).bind fun g=>(GX P o.op).bind fun op=>
  Qa (match o.dst with|some d=>decide (d<n)|none=>true) (some ⟨o.dst,g,op⟩)
def kindOf:Ko→Nat
 |.load .. =>1
 |.append .. =>2
 |.Qo .. |.ZU .. =>1
 |.store .. |.copy .. |.clear .. |.call .. |.AX .. |.Nz .. |.RP .. |.QY .. |.VE .. |.Vf .. |.Fq .. |.KL .. =>3
 |_=>0
def Qj(o:Oper):List Nat:=(o.after.toList.filter (Region.binds .any)).map (·.on)
def Lg(ops:List Oper):List (List Nat):=
 ops.foldl (fun acc o=>acc++[(Qj o).flatMap fun j=>j::acc.getD j []]) []
def Ji:J7→List Nat
 |.tmp t=>[t]
 |.const _=>[]
def Ng:Option J7→List Nat
 |some x=>Ji x
 |none=>[]
def Ko.tmps:Ko→List Nat
 |.K7 x|.box x|.nilCheck x|.not x|.field _ x|.extract x _|.len x|.load _ _ x|.clear _ x=>Ji x
 |.pick a b c=>Ji a++Ji b++Ji c
 |.new _=>[]
 |.build _ ps|.buildSlice _ _ _ ps=>ps.flatMap fun p=>Ji p.2.2
 |.conv _ x|.XH _ x=>Ji x
 |.shift _ x y|.Qp _ _ x y=>Ji x++Ji y
 |.mm _ l=>l.flatMap Ji
 |.Vg=>[]
 |.ZU m|.Vf m=>Ji m
 |.Qo _ _ _ m x|.VE _ m x=>Ji m++Ji x
 |.QY _ m x v=>Ji m++Ji x++Ji v
 |.store _ x y|.bin _ x y|.eqv _ _ x y|.eqs _ _ x y|.eqb _ _ x y|.Ga0 _ x y|.makeSlice _ _ x y|.index _ x y|.append _ x y|.copy _ x y=>Ji x++Ji y
 |.NY _ l|.call _ l=>l.flatMap Ji
 |.slice _ x a b c=>Ji x++Ng a++Ng b++Ng c
 |.AX g l|.Nz g l _|.RP _ g l _=>Ji g++l.flatMap Ji
 |.Sg _ x|.I6 _ x|.Fq x|.KL _ x=>Ji x
def GZ.reads(s:GZ):List Nat:=s.op.tmps++(match s.guard with|some (t,_)=>[t]|none=>[])
def GhI(an:List (List Nat))(i j:Nat):Bool:=decide (i=j)||(an.getD j []).contains i||(an.getD i []).contains j
def Gbr(ss:List GZ)(an:List (List Nat)):List Nat:=
 ss.zipIdx.map fun(s,i)=>
  if kindOf s.op=2 then(if ss.zipIdx.all fun(r,j)=>kindOf r.op<2||GhI an i j then 3 else 1)else kindOf s.op
def GkC(an:List (List Nat))(ks:List Nat)(j:Nat):Nat:=((an.getD j []).eraseDups.filter fun i=>ks.getD i 0==3).length
def changing(ks:List Nat):List Nat:=(List.range ks.length).filter fun i=>ks.getD i 0==3
def Gba(an:List (List Nat))(ks:List Nat)(j:Nat):Nat:=
 if ks.getD j 0==3 then((changing ks).takeWhile fun m=>decide (m≠j)).length
 else((changing ks).takeWhile fun m=>!(an.getD m []).contains j).length
def Ghu(an:List (List Nat))(ks:List Nat):List Nat:=
 (List.range ((changing ks).length+1)).flatMap fun p=>
  ((List.range ks.length).filter fun j=>Gba an ks j==p&&ks.getD j 0 != 3)++((List.range ks.length).filter fun j=>Gba an ks j==p&&ks.getD j 0==3)
def O_(ss:List GZ)(an:List (List Nat))(ks:List Nat):List GQ:=
 (Ghu an ks).map fun j=>{s:=ss.getD j default,no:=j,kind:=ks.getD j 0,low:=GkC an ks j}
def GkX(ops:List Oper)(an:List (List Nat)):Bool:=
 ops.zipIdx.all fun(o,j)=>(an.getD j []).all fun i=>(Qj o).any fun e=>decide (e<j)&&(decide (i=e)||(an.getD e []).contains i)
def dOk(ops:List Oper)(ss:List GZ)(an:List (List Nat))(l:List GQ):Bool:=
 GkX ops an&&(ops.zipIdx.all fun(o,i)=>(Qj o).all fun j=>decide (j<i))&&decide (l.length=ops.length)&&decide (ss.length=ops.length)&&
 (l.all fun d=>decide (d.no<ops.length)&&(d.kind==0||d.kind==1||d.kind==3)&&(d.kind != 0||kindOf d.s.op==0))&&
 ((List.range ops.length).all fun j=>l.any fun d=>d.no==j&&ss[j]?.any fun s=>s.dst==d.s.dst)&&
 (l.zipIdx.all fun(d,q)=>l.zipIdx.all fun(c,r)=>
  (decide (q=r)||d.no != c.no)&&
  (
   match c.s.dst with
   |none=>true
   |some t=>(decide (q=r)||d.s.dst != some t)&&(!d.s.reads.contains t||(decide (r<q)&&(an.getD d.no []).contains c.no)||(decide (q≤r)&&(decide (q=r)||(an.getD c.no []).contains d.no))))&&
  (!(c.kind==3&&decide (r<q)&&(d.kind==3||decide (((l.take r).filter fun x=>x.kind==3).length<d.low)))||(an.getD d.no []).contains c.no)&&
  (!(d.kind==3&&c.kind != 3&&decide (r<q))||(an.getD d.no []).contains c.no))&&
 (l.zipIdx.all fun(d,q)=>decide (d.low≤((l.take q).filter fun x=>x.kind==3).length))
def roundsIn:Code→List (Array Tmp×Code×Code)
 |.seq a b|.cond _ a b=>roundsIn a++roundsIn b
 |.block _ c|.loop c|.scope c=>roundsIn c
 |.rangeFunc _ ps a c=>[(ps,a,c)]
 |_=>[]
def OM(f k:Nat):Nat:=(f*16+k)*2
def Jw(P:Program)(f n:Nat)(top:Bool)(k:Nat):Code→Option Gu
 |.skip=>some .skip
 |.region _ ops draw=>(J3 (ops.toList.map (Na P n ops))).bind fun ss=>
  if draw then Qa (dOk ops.toList ss (Lg ops.toList) (O_ ss (Lg ops.toList) (Gbr ss (Lg ops.toList)))) (some (.QC (O_ ss (Lg ops.toList) (Gbr ss (Lg ops.toList)))))else some (.region ss)
 |.seq a b=>(Jw P f n top k a).bind fun a'=>(Jw P f n top (k+(roundsIn a).length) b).map fun b=>.seq a' b
 |.cond c a b=>(QK c).bind fun c=>(Jw P f n top k a).bind fun a'=>(Jw P f n top (k+(roundsIn a).length) b).map fun b=>.cond c a' b
 |.block id c=>(Jw P f n top k c).map (.block id)
 |.loop c=>(Jw P f n top k c).map .loop
 |.rangeFunc g ps _ _=>(QK g).bind fun g=>Qa (top&&decide (k<16)&&ps.toList.all fun t=>decide (t<n)) (some (.Qb g ps.toList n (OM f k)))
 |.exit id=>some (.exit id)
 |.ret=>some .ret
 |_=>none
def Uh(P:Program):ResultVar→Option VH
 |.tmp t=>some (.tmp t)
 |.cell a t=>(YC P t).bind fun g=>(sizeT P t).map fun n=>.cell a g n
structure M9 where
 i:Nat
 ops:Array Oper
 out:Nat
 j:Nat
 OI:Array Oper
 more:Nat
 Tj:Nat
 Xc:Nat
 k:Nat
 ZC:Array Oper
 code:Code
def M9.of(l:M9):Code:=
 .seq (.region l.i l.ops false) (.block l.out (.loop (.seq (.region l.j l.OI false) (.seq (.cond (.tmp l.more) .skip (.exit l.Tj)) (.block l.Xc (.seq (.region l.k l.ZC false) l.code))))))
def Gdu:Code→Option M9
 |.seq (.region i ops false) (.block out (.loop (.seq (.region j OI false) (.seq (.cond (.tmp more) .skip (.exit Tj)) (.block Xc (.seq (.region k ZC false) code))))))=>some ⟨i,ops,out,j,OI,more,Tj,Xc,k,ZC,code⟩
 |_=>none
structure Gkg where
 t:TypeId
 m:Operand
 it:Nat
 nx:Nat
 more:Nat
 pair:Nat
def GgI(l:M9):Option Gkg:=
 match l.ops.back?,l.OI.toList,l.ZC[0]? with
 |some r,[o1,o2],some e=>
  match r.op,o1.op,o2.op,e.op,r.dst,o1.dst,o2.dst,e.dst with
  |.range t m,.next (.tmp it1) false,.extract (.tmp nx1) 0,.entry (.tmp it2),some it,some nx,some more,some pair=>
   Qa (it1==it&&it2==it&&nx1==nx&&more==l.more&&l.Tj==l.out&&r.guard.isNone&&o1.guard.isNone&&o2.guard.isNone&&e.guard.isNone&&it != nx&&it != more&&it != pair&&nx != more&&nx != pair&&more != pair) (some ⟨t,m,it,nx,more,pair⟩)
  |_,_,_,_,_,_,_,_=>none
 |_,_,_=>none
def Z_(P:Program)(f n:Nat)(live:List Nat):Code→Option Gu
 |.seq a b=>
  match Gdu a with
  |some l=>(GgI l).bind fun o=>(ET P o.t).bind fun _=>(QK o.m).bind fun m=>
   (J3 (l.ops.toList.dropLast.map (Na P n l.ops))).bind fun pre=>(J3 (l.ZC.toList.tail.map (Na P n l.ZC))).bind fun Ga=>
   (Jw P f n false 0 l.code).bind fun c=>(Jw P f n false 0 b).bind fun r=>
   Qa (decide (o.it<n)&&decide (o.nx<n)&&decide (o.more<n)&&decide (o.pair<n))
    (some (.seq (.region pre) (.YO ⟨m,o.it,o.nx,o.more,o.pair,l.out,live⟩ (.block l.Xc (.seq (.region Ga) c)) r)))
  |none=>(Jw P f n false 0 a).bind fun a'=>(Z_ P f n live b).map fun b'=>.seq a' b'
 |_=>none
def VH.GbR:VH→Nat
 |.tmp t=>t
 |.cell t _ _=>t
def isSort(fn:Func):Bool:=Xj fn.name "slices.Sort" 22
def isSorted(fn:Func):Bool:=Xj fn.name "slices.Sorted" 18
def GjX(fn:Func):Bool:=Xj fn.name "maps.Keys" 34
def Xg(P:Program):Option Nat:=(List.range P.funcs.size).find? fun g=>match P.funcs[g]? with|some fn=>GjX fn|none=>false
def Gal(P:Program)(fn:Func):Option Gm:=
 if isSort fn=true∧fn.body.isSome=true then some ⟨1,0,.region [⟨none,none,.Fq (.tmp 0)⟩],[]⟩
 else if isSorted fn=true∧fn.body.isSome=true then(Xg P).map fun g=>⟨1,0,.region [⟨some 1,none,.KL g (.tmp 0)⟩],[.tmp 1]⟩
 else none
def Sv(P:Program)(f:Nat)(fn:Func):Option Gm:=
 Qa (fn.name != "runtime.NumGoroutine")
  (fn.body.bind fun c=>(J3 (fn.results.toList.map (Uh P))).bind fun rs=>
   match Jw P f fn.ntmps true 0 c with
   |some b=>some ⟨fn.ntmps,0,b,rs⟩
   |none=>(Z_ P f fn.ntmps (rs.map VH.GbR) c).map fun b=>⟨fn.ntmps,0,b,rs⟩)
def V5(P:Program)(z:Nat):Option (Nat×Func×Array Tmp×Code×Code):=
 (P.funcs[z/2/16]?).bind fun fn=>fn.body.bind fun c=>((roundsIn c)[z/2 % 16]?).map fun r=>(z/2/16,fn,r)
def EA(P:Program)(z:Nat):Option Gm:=
 (V5 P z).bind fun r=>
  if z % 2=0 then(Jw P r.1 r.2.1.ntmps false 0 r.2.2.2.1).map fun c=>⟨r.2.1.ntmps,1,c,[]⟩
  else(Jw P r.1 r.2.1.ntmps false 0 r.2.2.2.2).map fun c=>⟨r.2.1.ntmps,2,c,[]⟩
def Kn(P:Program):JD:=fun f=>if f<RB then(P.funcs[f]?).bind fun fn=>match Gal P fn with|some cf=>some cf|none=>Sv P f fn else EA P (f-RB)
end Go.Cs
namespace Go.Cs.A
abbrev t(n:Nat):J7:=.tmp n
abbrev c(v:CV):J7:=.const v
abbrev i(n:Int):CV:=.int .i64 n
abbrev k(n:Int):J7:=.const (.int .i64 n)
abbrev S(a b:Gu):Gu:=.seq a b
abbrev R(l:List GZ):Gu:=.region l
abbrev D(l:List GQ):Gu:=.QC l
abbrev B(n:Nat)(a:Gu):Gu:=.block n a
abbrev W(a:Gu):Gu:=.loop a
abbrev X(n:Nat):Gu:=.exit n
abbrev C(n:Nat)(a b:Gu):Gu:=.cond (.tmp n) a b
abbrev e(d:Nat)(o:Ko):GZ:=⟨some d,none,o⟩
abbrev u(o:Ko):GZ:=⟨none,none,o⟩
abbrev gt(t:Nat)(s:GZ):GZ:=⟨s.dst,some (t,true),s.op⟩
abbrev gf(t:Nat)(s:GZ):GZ:=⟨s.dst,some (t,false),s.op⟩
abbrev m(d x:Nat):GZ:=⟨some d,none,.K7 (.tmp x)⟩
abbrev n(d:Nat)(x:Int):GZ:=⟨some d,none,.K7 (.const (.int .i64 x))⟩
abbrev nb(d:Nat)(x:Bool):GZ:=⟨some d,none,.K7 (.const (.bool x))⟩
abbrev l(d n x:Nat):GZ:=⟨some d,none,.load false n (.tmp x)⟩
abbrev lg(d n x:Nat):GZ:=⟨some d,none,.load true n (.tmp x)⟩
abbrev f(d n x:Nat):GZ:=⟨some d,none,.field n (.tmp x)⟩
abbrev z(d x:Nat):GZ:=⟨some d,none,.nilCheck (.tmp x)⟩
abbrev x(d n x y:Nat):GZ:=⟨some d,none,.index n (.tmp x) (.tmp y)⟩
abbrev ex(d x n:Nat):GZ:=⟨some d,none,.extract (.tmp x) n⟩
abbrev le(d x:Nat):GZ:=⟨some d,none,.len (.tmp x)⟩
abbrev no(d x:Nat):GZ:=⟨some d,none,.not (.tmp x)⟩
abbrev bo(d x:Nat):GZ:=⟨some d,none,.box (.tmp x)⟩
abbrev b(d:Nat)(o:BinOp)(x y:Nat):GZ:=⟨some d,none,.bin o (.tmp x) (.tmp y)⟩
abbrev bk(d:Nat)(o:BinOp)(x:Nat)(y:Int):GZ:=⟨some d,none,.bin o (.tmp x) (.const (.int .i64 y))⟩
abbrev an(d x y:Nat):GZ:=⟨some d,none,.pick (.tmp x) (.tmp y) (.const (.bool false))⟩
abbrev or(d x y:Nat):GZ:=⟨some d,none,.pick (.tmp x) (.const (.bool true)) (.tmp y)⟩
abbrev ap(d n x y:Nat):GZ:=⟨some d,none,.append n (.tmp x) (.tmp y)⟩
abbrev st(n x y:Nat):GZ:=⟨none,none,.store n (.tmp x) (.tmp y)⟩
abbrev ca(d f:Nat)(l:List J7):GZ:=⟨some d,none,.call f l⟩
abbrev q1(d f a:Nat):GZ:=⟨some d,none,.call f [.tmp a]⟩
abbrev q2(d f a b:Nat):GZ:=⟨some d,none,.call f [.tmp a,.tmp b]⟩
abbrev q3(d f a b c:Nat):GZ:=⟨some d,none,.call f [.tmp a,.tmp b,.tmp c]⟩
abbrev q4(d f a b c e:Nat):GZ:=⟨some d,none,.call f [.tmp a,.tmp b,.tmp c,.tmp e]⟩
abbrev q5(d f a b c e g:Nat):GZ:=⟨some d,none,.call f [.tmp a,.tmp b,.tmp c,.tmp e,.tmp g]⟩
abbrev Q(l:List GZ):Gu:=.seq (.region l) .ret
abbrev T(l:List GZ)(a:Gu):Gu:=.seq (.region l) a
abbrev I(n:Nat)(a:Gu):Gu:=.cond (.tmp n) a .skip
abbrev J(n:Nat)(a:Gu):Gu:=.cond (.tmp n) .skip a
abbrev r(n:Nat):VH:=.tmp n
end Go.Cs.A
namespace Go.Cs
open Go Go.RowKit
structure Zz where
 c:Nat
 s:Nat
 Jf:Nat
 size:Nat
abbrev Mu:=Nat→Option Zz
mutual
def V(μ:Mu):CV→Value→Prop
 |.int k n,v=>v=.int k n
 |.bool b,v=>v=.bool b
 |.ptr b o,v=>∃m,μ b=some m∧v=.pointer (some ⟨m.c,m.s+o,none⟩)
 |.nilPtr,v=>v=.pointer none
 |.slice b o len cap e tail,v=>∃m cap' off,μ b=some m∧m.Jf=e∧v=.slice (some ⟨m.c,off,none⟩) len cap'∧len≤cap'∧(if tail=true then cap≤cap' else cap'=cap)∧(cap'=0∨off=m.s+o)∧off+cap'*m.Jf≤m.size
 |.Gf,v=>v=.slice none 0 0
 |.func f caps,v=>∃vs,v=.func (.func f) #[] vs∧VL μ caps vs.toList
 |.nilFunc,v=>v=.nilFunc
 |.GU b,v=>∃m,μ b=some m∧v=.map (some m.c)
 |.Uz,v=>v=.map none
 |.iface t x,v=>∃u,v=.iface t u∧V μ x u
 |.nilIface,v=>v=.nilIface
 |.GaC name x,v=>∃u,v=.func (.method name) #[u] #[]∧V μ x u
 |.yld b,v=>∃m,μ b=some m∧v=.func (.yield m.c) #[] #[]
 |.agg cs,v=>∃vs,v=.agg vs∧VL μ cs vs.toList
 |.Ju cs,v=>∃vs,v=.tuple vs∧VL μ cs vs.toList
def VL(μ:Mu):List CV→List Value→Prop
 |[],vs=>vs=[]
 |c::cs,vs=>∃v rest,vs=v::rest∧V μ c v∧VL μ cs rest
end
mutual
theorem V.mono{μ ν:Mu}(h:∀b m,μ b=some m→ν b=some m):∀(c:CV)(v:Value),V μ c v→V ν c v
 |.int k n,v,e=>by simpa[V]using e
 |.bool b,v,e=>by simpa[V]using e
 |.ptr b o,v,e=>by
  simp only[V]at e⊢
  obtain⟨m,hm,e⟩:=e
  exact⟨m,h b m hm,e⟩
 |.nilPtr,v,e=>by simpa[V]using e
 |.slice b o len cap z tail,v,e=>by
  simp only[V]at e⊢
  obtain⟨m,c',off,hm,e⟩:=e
  exact⟨m,c',off,h b m hm,e⟩
 |.Gf,v,e=>by simpa[V]using e
 |.func f caps,v,e=>by
  simp only[V]at e⊢
  obtain⟨vs,e,hl⟩:=e
  exact⟨vs,e,VL.mono h caps _ hl⟩
 |.nilFunc,v,e=>by simpa[V]using e
 |.GU b,v,e=>by
  simp only[V]at e⊢
  obtain⟨m,hm,e⟩:=e
  exact⟨m,h b m hm,e⟩
 |.Uz,v,e=>by simpa[V]using e
 |.iface t x,v,e=>by
  simp only[V]at e⊢
  obtain⟨u,e,hu⟩:=e
  exact⟨u,e,V.mono h x u hu⟩
 |.nilIface,v,e=>by simpa[V]using e
 |.GaC name x,v,e=>by
  simp only[V]at e⊢
  obtain⟨u,e,hu⟩:=e
  exact⟨u,e,V.mono h x u hu⟩
 |.yld b,v,e=>by
  simp only[V]at e⊢
  obtain⟨m,hm,e⟩:=e
  exact⟨m,h b m hm,e⟩
 |.agg cs,v,e=>by
  simp only[V]at e⊢
  obtain⟨vs,e,hl⟩:=e
  exact⟨vs,e,VL.mono h cs _ hl⟩
 |.Ju cs,v,e=>by
  simp only[V]at e⊢
  obtain⟨vs,e,hl⟩:=e
  exact⟨vs,e,VL.mono h cs _ hl⟩
theorem VL.mono{μ ν:Mu}(h:∀b m,μ b=some m→ν b=some m):∀(cs:List CV)(vs:List Value),VL μ cs vs→VL ν cs vs
 |[],vs,e=>by simpa[VL]using e
 |c::cs,vs,e=>by
  simp only[VL]at e⊢
  obtain⟨v,rest,e,hv,hl⟩:=e
  exact⟨v,rest,e,V.mono h c v hv,VL.mono h cs rest hl⟩
end
theorem VL.length{μ:Mu}:∀{cs:List CV}{vs:List Value},VL μ cs vs→vs.length=cs.length
 |[],_,e=>by simp only[VL]at e;simp[e]
 |_::cs,_,e=>by
  simp only[VL]at e
  obtain⟨v,rest,rfl,_,hl⟩:=e
  simp[VL.length hl]
theorem VL.get{μ:Mu}:∀{cs:List CV}{vs:List Value},VL μ cs vs→∀{i:Nat}{c:CV},cs[i]?=some c→∃v,vs[i]?=some v∧V μ c v
 |[],_,_,i,c,h=>by simp at h
 |c::cs,_,e,i,d,h=>by
  simp only[VL]at e
  obtain⟨v,rest,rfl,hv,hl⟩:=e
  cases i with
  |zero=>simp at h;subst h;exact⟨v,rfl,hv⟩
  |succ i=>simpa using VL.get hl (by simpa using h)
theorem VL.Ac{μ:Mu}:∀{cs:List CV}{vs:List Value},vs.length=cs.length→(∀(i:Nat)(c:CV),cs[i]?=some c→∃v,vs[i]?=some v∧V μ c v)→VL μ cs vs
 |[],vs,hl,_=>by simp only[VL];exact List.length_eq_zero_iff.1 hl
 |c::cs,vs,hl,h=>by
  match vs,hl with
  |v::rest,hl=>
   simp only[VL]
   refine⟨v,rest,rfl,?_,VL.Ac (by simpa using hl) fun i d hd=>?_⟩
   ·obtain⟨u,hu,hv⟩:=h 0 c rfl
    simp at hu;subst hu;exact hv
   ·obtain⟨u,hu,hv⟩:=h (i+1) d (by simpa using hd)
    exact⟨u,by simpa using hu,hv⟩
theorem VL.append{μ:Mu}{Ga bs:List CV}{xs ys:List Value}(h:VL μ Ga xs)(k:VL μ bs ys):VL μ (Ga++bs) (xs++ys):=by
 induction Ga generalizing xs with
 |nil=>simp only[VL]at h;subst h;exact k
 |cons a Ga ih=>
  simp only[VL]at h
  obtain⟨v,rest,rfl,hv,hl⟩:=h
  simp only[List.cons_append,VL]
  exact⟨v,rest++ys,rfl,hv,ih hl⟩
theorem VL.take{μ:Mu}{Ga:List CV}{xs:List Value}(h:VL μ Ga xs)(n:Nat):VL μ (Ga.take n) (xs.take n):=by
 refine VL.Ac (by simp[h.length]) fun i c hc=>?_
 rw[Ze]at hc⊢
 split at hc
 ·rename_i hi;obtain⟨v,hv,hV⟩:=h.get hc;exact⟨v,by rw[if_pos hi];exact hv,hV⟩
 ·cases hc
theorem VL.drop{μ:Mu}{Ga:List CV}{xs:List Value}(h:VL μ Ga xs)(n:Nat):VL μ (Ga.drop n) (xs.drop n):=by
 refine VL.Ac (by simp[h.length]) fun i c hc=>?_
 rw[Yo]at hc⊢
 exact h.get hc
theorem VL.splice{μ:Mu}{Ga bs:List CV}{xs ys:List Value}(h:VL μ Ga xs)(k:VL μ bs ys)(o:Nat):VL μ (splice Ga o bs) (xs.take o++ys++xs.drop (o+ys.length)):=by
 unfold Cs.splice
 rw[k.length]
 exact((h.take o).append k).append (h.drop _)
theorem V.cells{μ:Mu}{c:CV}{v:Value}(h:V μ c v):VL μ (cellsOf c) v.cells.toList:=by
 cases c<;>simp only[V]at h<;>try (obtain⟨vs,rfl,hl⟩:=h;exact hl)
 all_goals
  simp only[cellsOf,VL]
  refine⟨v,[],?_,?_,rfl⟩
  ·first
   |(subst h;rfl)
   |(obtain⟨m,_,rfl⟩:=h;rfl)
   |(obtain⟨m,c',off,_,_,rfl,_⟩:=h;rfl)
   |(obtain⟨vs,rfl,hl⟩:=h;rfl)
  ·simpa only[V]using h
theorem V.leaf{μ:Mu}{c:CV}{v:Value}(h:V μ c v)(hl:leaf c=true):v.oneCell'=true:=by
 cases c<;>simp only[V]at h<;>first
  |(subst h;rfl)
  |(obtain⟨m,_,rfl⟩:=h;rfl)
  |(obtain⟨m,c',off,_,_,rfl,_⟩:=h;rfl)
  |(obtain⟨vs,rfl,_⟩:=h;first|rfl|simp[Cs.leaf]at hl)
theorem VL.leaf{μ:Mu}{cs:List CV}{vs:List Value}(h:VL μ cs vs)(hl:cs.all Cs.leaf=true):∀v∈vs,v.oneCell'=true:=by
 induction cs generalizing vs with
 |nil=>simp only[VL]at h;subst h;simp
 |cons c cs ih=>
  simp only[VL]at h
  obtain⟨v,rest,rfl,hv,hr⟩:=h
  simp only[List.all_cons,JQ]at hl
  intro u hu
  rcases List.mem_cons.1 hu with rfl|hu
  ·exact hv.leaf hl.1
  ·exact ih hr hl.2 u hu
theorem Bh(w:World)(o:Obj)(i:Nat)(h:i<w.heap.size):(w.alloc o).heap[i]?=w.heap[i]?:=by
 show(w.heap.push o)[i]?=w.heap[i]?
 rw[Array.getElem?_push,if_neg (Nat.ne_of_lt h)]
theorem Bj(w:World)(o:Obj):(w.alloc o).heap[w.heap.size]?=some o:=by
 show(w.heap.push o)[w.heap.size]?=some o
 simp
def JY(μ:Mu):List CV→List MapEntry→Prop
 |[],es=>es=[]
 |c::cs,es=>∃k n v e rest,c=.Ju [.int k n,v]∧es=e::rest∧e.key=.int k n∧V μ v e.val∧Cs.leaf v=true∧JY μ cs rest
theorem JY.mono{μ ν:Mu}(h:∀b m,μ b=some m→ν b=some m):∀{cs:List CV}{es:List MapEntry},JY μ cs es→JY ν cs es
 |[],es,e=>e
 |c::cs,es,e=>by
  obtain⟨k,n,v,x,rest,h1,h2,h3,h4,h5,h6⟩:=e
  exact⟨k,n,v,x,rest,h1,h2,h3,V.mono h _ _ h4,h5,JY.mono h h6⟩
structure Bs extends World where
 rnd:Nat→Nat→Nat→Array Tmp→Code→Code→Prop
 frz:Nat→Obj→Prop
def StR(s:Int)(r:Loop):Prop:=
 (s=0∧r.state=.ready∧r.pending=none)∨s=1∨(s=2∧r.state=.done∧r.pending=some .ret)∨∃id:Nat,s=id+3∧r.state=.done∧r.pending=some (.exit id)
def DI(B:Bs)(μ:Mu)(blk:JI)(r:Loop):Prop:=
 ∃s env z,blk=Jk s (r.params.toList.map fun(t:Nat)=>CV.i (t:Int)) env z∧StR s r∧(∀t,V μ (env.getD t .undef) (r.tmps.getD t undef))∧env.length≤r.tmps.size∧B.rnd z env.length r.fn r.params r.assign r.body
theorem DI.mono{B:Bs}{μ ν:Mu}(h:∀b m,μ b=some m→ν b=some m){blk:JI}{r:Loop}(e:DI B μ blk r):DI B ν blk r:=by
 obtain⟨s,env,z,h1,h2,h3,h4⟩:=e
 exact⟨s,env,z,h1,h2,fun t=>V.mono h _ _ (h3 t),h4⟩
def Ie(B:Bs)(μ:Mu)(c:Nat)(blk:JI)(ob:Obj):Prop:=
 (blk.Jf=0∧∃es cl,ob=.map es cl∧JY μ (Qy blk.cells) es.toList∧MapKept.Stamped es cl∧(VY blk.cells=true→B.frz c ob))∨∃r,ob=.loop r∧DI B μ blk r
theorem Ie.mono{B:Bs}{μ ν:Mu}{c:Nat}(h:∀b m,μ b=some m→ν b=some m){blk:JI}{ob:Obj}(e:Ie B μ c blk ob):Ie B ν c blk ob:=by
 rcases e with⟨h1,es,cl,h2,h3,h4⟩|⟨r,h1,h2⟩
 ·exact .inl ⟨h1,es,cl,h2,h3.mono h,h4⟩
 ·exact .inr ⟨r,h1,h2.mono h⟩
theorem Ie.map{B:Bs}{μ:Mu}{c:Nat}{blk:JI}{ob:Obj}(e:Ie B μ c blk ob)(h:blk.Jf=0):∃es cl,ob=.map es cl∧JY μ (Qy blk.cells) es.toList∧MapKept.Stamped es cl∧(VY blk.cells=true→B.frz c ob):=by
 rcases e with⟨_,h1⟩|⟨r,_,s,env,z,h1,_⟩
 ·exact h1
 ·rw[h1]at h;cases h
theorem Ie.loop{B:Bs}{μ:Mu}{c:Nat}{blk:JI}{ob:Obj}(e:Ie B μ c blk ob)(h:blk.Jf≠0):∃r,ob=.loop r∧DI B μ blk r:=by
 rcases e with⟨h1,_⟩|h1
 ·exact absurd h1 h
 ·exact h1
theorem U7{μ:Mu}{cs:List CV}{es:List MapEntry}(h:JY μ cs es):Qy cs=cs∧VY cs=false:=by
 cases cs with
 |nil=>exact⟨rfl,rfl⟩
 |cons c l=>
  obtain⟨k,n,v,e,rest,rfl,_⟩:=h
  exact⟨by cases l<;>rfl,by cases l<;>rfl⟩
theorem JY.GjC{B:Bs}{μ:Mu}{c:Nat}{blk:JI}{es:Array MapEntry}{cl:Nat}(h0:blk.Jf=0)(h:JY μ blk.cells es.toList∧MapKept.Stamped es cl):Ie B μ c blk (.map es cl):=
 .inl ⟨h0,es,cl,rfl,by rw[(U7 h.1).1];exact h.1,h.2,fun e=>by rw[(U7 h.1).2]at e;cases e⟩
structure JZ(K:Nat→Option Obj)(B:Bs)(μ:Mu)(H:Gb)(w:World):Prop where
 base:Below B.heap.size B.toWorld w
 kept:∀c o,K c=some o→w.heap[c]?=some o
 blk:∀b blk m,H[b]?=some blk→blk.mode≠.dead→blk.mode≠.map→μ b=some m→∃arr T fz,w.heap[m.c]?=some (.cells arr T fz)∧
  (∀(i:Nat)(c:CV),blk.cells[i]?=some c→∃v,arr[m.s+i]?=some v∧V μ c v)∧
  (blk.mode=.rw→m.Jf=blk.Jf∧arr.size=m.size∧((blk.Jf=0→m.s=0)∧m.s+blk.cells.length≤m.size)∧fz=(0,0)∧B.heap.size≤m.c∧K m.c=none)∧
  (blk.mode=.ro→m.c<B.heap.size)
 inj:∀b1 b2 k1 k2 m1 m2,H[b1]?=some k1→H[b2]?=some k2→k1.mode=.rw∨k1.mode=.map→k2.mode≠.dead→b1≠b2→μ b1=some m1→μ b2=some m2→m1.c≠m2.c
 mp:∀b blk m,H[b]?=some blk→blk.mode=.map→μ b=some m→∃ob,w.heap[m.c]?=some ob∧Ie B μ m.c blk ob∧B.heap.size≤m.c∧K m.c=none
theorem JZ.congr{K:Nat→Option Obj}{B:Bs}{μ ν:Mu}{H:Gb}{w:World}(h:JZ K B μ H w)(he:∀b,b<H.length→ν b=μ b)(hm:∀b m,μ b=some m→ν b=some m):JZ K B ν H w:=by
 have lt:∀{b:Nat}{k:JI},H[b]?=some k→b<H.length:=fun e=>(Ni.1 e).1
 refine⟨h.base,h.kept,fun b k m hb hd hd' hv=>?_,fun b1 b2 k1 k2 m1 m2 h1 h2 r1 r2 hne e1 e2=>?_,fun b k m hb hd hv=>?_⟩
 rotate_left 2
 ·rw[he b (lt hb)]at hv
  obtain⟨ob,hw,hr,hB,hK⟩:=h.mp b k m hb hd hv
  exact⟨ob,hw,hr.mono hm,hB,hK⟩
 ·rw[he b (lt hb)]at hv
  obtain⟨arr,T,fz,hw,hc,hr⟩:=h.blk b k m hb hd hd' hv
  exact⟨arr,T,fz,hw,fun i c hi=>let ⟨v,hv,hV⟩:=hc i c hi;⟨v,hv,V.mono hm _ _ hV⟩,hr⟩
 ·rw[he b1 (lt h1)]at e1
  rw[he b2 (lt h2)]at e2
  exact h.inj b1 b2 k1 k2 m1 m2 h1 h2 r1 r2 hne e1 e2
theorem JZ.same{K:Nat→Option Obj}{B:Bs}{μ:Mu}{H:Gb}{w w':World}(h:JZ K B μ H w)(hh:w'.heap=w.heap)(ho:w'.os=w.os)(ht:w'.tape=w.tape)(hu:w'.output=w.output):JZ K B μ H w':=
 ⟨⟨ho.trans h.base.os,ht.trans h.base.tape,hu.trans h.base.output,by rw[hh];exact h.base.size,fun k hk=>by rw[hh];exact h.base.block k hk⟩,
  fun c o hc=>by rw[hh];exact h.kept c o hc,fun b k m hb hd hd' hv=>by rw[hh];exact h.blk b k m hb hd hd' hv,h.inj,fun b k m hb hd hv=>by rw[hh];exact h.mp b k m hb hd hv⟩
theorem JZ.QF{K:Nat→Option Obj}{B:Bs}{μ:Mu}{H:Gb}{w:World}(h:JZ K B μ H w){b o:Nat}{c:CV}{m:Zz}(hl:QF H b o=some c)(hm:μ b=some m):
  ∃v,w.cell? ⟨m.c,m.s+o,none⟩=some v∧V μ c v:=by
 unfold Cs.QF at hl
 split at hl
 ·rename_i k hk
  split at hl
  ·cases hl
  ·rename_i hd
   obtain⟨arr,T,fz,hw,hc,_⟩:=h.blk b k m hk (fun e=>hd (.inl e)) (fun e=>hd (.inr e)) hm
   obtain⟨v,hv,hV⟩:=hc o c hl
   exact⟨v,by simp[World.cell?,hw,hv],hV⟩
 ·cases hl
theorem JZ.Km{K:Nat→Option Obj}{B:Bs}{μ:Mu}{H:Gb}{w:World}(h:JZ K B μ H w){b o n:Nat}{cs:List CV}{m:Zz}(hl:Km H b o n=some cs)(hm:μ b=some m):
  cs.length=n∧∃vs,VL μ cs vs∧∀j v,vs[j]?=some v→w.cell? ⟨m.c,m.s+o+j,none⟩=some v:=by
 unfold Cs.Km at hl
 split at hl
 ·rename_i k hk
  split at hl
  ·cases hl
  ·rename_i hd
   split at hl
   ·rename_i hle
    simp only[Gx]at hl
    subst hl
    obtain⟨arr,T,fz,hw,hc,_⟩:=h.blk b k m hk (fun e=>hd (.inl e)) (fun e=>hd (.inr e)) hm
    have hlen:((k.cells.drop o).take n).length=n:=by simp;omega
    refine⟨hlen,(List.range n).map (fun j=>arr.getD (m.s+o+j) undef),?_,?_⟩
    ·refine VL.Ac (by simp;omega) fun i c hi=>?_
     have hin:i<n:=by have:=(Ni.1 hi).1;omega
     rw[Ze,if_pos hin,Yo]at hi
     obtain⟨v,hv,hV⟩:=hc _ c hi
     refine⟨v,?_,hV⟩
     simp only[Ke,ZG hin,Option.map_some]
     rw[Array.getD_eq_getD_getElem?,show m.s+o+i=m.s+(o+i)from by omega,hv]
     rfl
    ·intro j v hv
     simp only[Ke]at hv
     by_cases hj:j<n
     ·rw[ZG hj]at hv
      simp only[Option.map_some,Gx]at hv
      have hx:k.cells[o+j]?=some (k.cells[o+j]'oM):=J9 oM
      obtain⟨u,hu,_⟩:=hc _ _ hx
      rw[Array.getD_eq_getD_getElem?,show m.s+o+j=m.s+(o+j)from by omega,hu]at hv
      simp at hv
      subst hv
      simp[World.cell?,hw,show m.s+o+j=m.s+(o+j)from by omega,hu]
     ·rw[En (by simp;omega)]at hv
      cases hv
   ·cases hl
 ·cases hl
theorem Ba{l vs:List CV}{o:Nat}(h:o+vs.length≤l.length):(splice l o vs).length=l.length:=by
 simp[splice];omega
theorem JZ.write{K:Nat→Option Obj}{B:Bs}{μ:Mu}{H:Gb}{w:World}(h:JZ K B μ H w){b o:Nat}{cs:List CV}{vs:List Value}{H':Gb}{m:Zz}(hs:Qq H b o cs=some H')(hm:μ b=some m)(hv:VL μ cs vs):
  ∃arr T,w.heap[m.c]?=some (.cells arr T (0,0))∧m.s+o+vs.length≤arr.size∧(∀v∈vs,v.oneCell'=true)∧
   JZ K B μ H' (w.setRow m.c (arr.toList.take (m.s+o)++vs++arr.toList.drop (m.s+o+vs.length)).toArray)∧H'.length=H.length:=by
 unfold Qq at hs
 split at hs
 ·rename_i k hk
  split at hs
  ·rename_i hc
   obtain⟨hrw,hle,P9⟩:=hc
   simp only[Gx]at hs
   subst hs
   have hd:k.mode≠.dead:=by rw[hrw];decide
   obtain⟨arr,T,fz,hw,hcell,hr,_⟩:=h.blk b k m hk hd (by rw[hrw];decide) hm
   obtain⟨he,hsz,hfits,rfl,hB,hK⟩:=hr hrw
   have hfit:m.s+o+vs.length≤arr.size:=by rw[hv.length,hsz];omega
   refine⟨arr,T,hw,hfit,hv.leaf P9,⟨?_,?_,?_,?_,?_⟩,sM⟩
   ·refine h.base.trans ⟨rfl,rfl,rfl,sM,fun q hq=>setRow_other w m.c q _ oM⟩
   ·intro c x hx
    have hne:c≠m.c:=fun e=>by rw[e,hK]at hx;cases hx
    rw[setRow_other w m.c c _ hne]
    exact h.kept c x hx
   ·intro b' k' m' hb' hd' hd2 hm'
    by_cases hbb:b'=b
    ·subst hbb
     rw[hm]at hm'
     simp only[Gx]at hm'
     subst hm'
     have hlt:b'<H.length:=(Ni.1 hk).1
     rw[KI hlt]at hb'
     simp only[Gx]at hb'
     subst hb'
     have hlen:(arr.toList.take (m.s+o)++vs++arr.toList.drop (m.s+o+vs.length)).length=arr.size:=by simp;omega
     refine⟨_,T,(0,0),setRow_heap w m.c arr _ T (0,0) hw,fun i c hi=>?_,fun _=>⟨he,?_,?_,rfl,hB,hK⟩,fun e=>by rw[hrw]at e;cases e⟩
     ·dsimp only at hi
      rw[List.getElem?_toArray]
      unfold splice at hi
      have hol:o≤k.cells.length:=by omega
      have GvH:m.s+o≤arr.toList.length:=by simp;omega
      by_cases h1:i<o
      ·rw[List.append_assoc,QN (by simp;omega),Ze,if_pos h1]at hi
       rw[List.append_assoc,QN (by simp;omega),Ze,if_pos oM]
       obtain⟨v,hv,hV⟩:=hcell i c hi
       exact⟨v,by simpa using hv,hV⟩
      ·by_cases h2:i<o+cs.length
       ·rw[List.append_assoc,M_ (by simp;omega),QN (by simp;omega)]at hi
        rw[List.append_assoc,M_ (by simp;omega),QN (by simp[hv.length];omega)]
        obtain⟨v,hv,hV⟩:=hv.get hi
        refine⟨v,?_,hV⟩
        rw[←hv]
        congr 1
        simp
        omega
       ·rw[List.append_assoc,M_ (by simp;omega),M_ (by simp;omega),Yo]at hi
        rw[List.append_assoc,M_ (by simp;omega),M_ (by simp[hv.length];omega),Yo]
        obtain⟨v,hv',hV⟩:=hcell _ c hi
        refine⟨v,?_,hV⟩
        rw[EM,←hv']
        congr 1
        simp[hv.length]
        omega
     ·rw[List.size_toArray,hlen,hsz]
     ·rw[Ba hle];exact hfits
    ·rw[JU (Ne.symm hbb)]at hb'
     obtain⟨arr',T',fz',hw',hc',hr'⟩:=h.blk b' k' m' hb' hd' hd2 hm'
     have hne:m'.c≠m.c:=Ne.symm (h.inj b b' k k' m m' hk hb' (.inl hrw) hd' (Ne.symm hbb) hm hm')
     exact⟨arr',T',fz',by rw[setRow_other w m.c m'.c _ hne];exact hw',hc',hr'⟩
   ·intro b1 b2 k1 k2 m1 m2 h1 h2 r1 r2 hne e1 e2
    have get:∀{b':Nat}{k':JI},(H.set b {k with cells:=splice k.cells o cs})[b']?=some k'→∃k'',H[b']?=some k''∧k''.mode=k'.mode:=by
     intro b' k' hb'
     by_cases hbb:b'=b
     ·subst hbb
      rw[KI ((Ni.1 hk).1)]at hb'
      simp only[Gx]at hb'
      subst hb'
      exact⟨k,hk,rfl⟩
     ·rw[JU (Ne.symm hbb)]at hb'
      exact⟨k',hb',rfl⟩
    obtain⟨q1,g1,f1⟩:=get h1
    obtain⟨q2,g2,f2⟩:=get h2
    exact h.inj b1 b2 q1 q2 m1 m2 g1 g2 (by rw[f1];exact r1) (f2▸r2) hne e1 e2
   ·intro b' k' m' hb' hd' hm'
    have hbb:b'≠b:=by
     rintro rfl
     rw[KI ((Ni.1 hk).1)]at hb'
     simp only[Gx]at hb'
     subst hb'
     rw[hrw]at hd';cases hd'
    rw[JU (Ne.symm hbb)]at hb'
    obtain⟨ob,hw',hr',hB',hK'⟩:=h.mp b' k' m' hb' hd' hm'
    have hne:m'.c≠m.c:=Ne.symm (h.inj b b' k k' m m' hk hb' (.inl hrw) (by rw[hd'];decide) (Ne.symm hbb) hm hm')
    exact⟨ob,by rw[setRow_other w m.c m'.c _ hne];exact hw',hr',hB',hK'⟩
  ·cases hs
 ·cases hs
theorem JZ.alloc{K:Nat→Option Obj}{B:Bs}{μ:Mu}{H:Gb}{w:World}(h:JZ K B μ H w)(o:Obj):JZ (fun c=>if c=w.heap.size then some o else K c) B μ H (w.alloc o):=by
 have old:∀{c:Nat},c<w.heap.size→(w.alloc o).heap[c]?=w.heap[c]?:=fun hc=>Bh w o _ hc
 refine⟨h.base.alloc h.base.size o,fun c x hx=>?_,fun b k m hb hd hd' hm=>?_,h.inj,fun b k m hb hd hm=>?_⟩
 rotate_left 2
 ·obtain⟨ob,hw,hr,hB,hK⟩:=h.mp b k m hb hd hm
  have hlt:=(N7.1 hw).1
  exact⟨ob,by rw[old hlt];exact hw,hr,hB,by rw[if_neg oM];exact hK⟩
 ·by_cases hc:c=w.heap.size
  ·rw[if_pos hc]at hx
   simp only[Gx]at hx
   subst hx;subst hc
   exact Bj w _
  ·rw[if_neg hc]at hx
   have:=h.kept c x hx
   rw[old (N7.1 this).1]
   exact this
 ·obtain⟨arr,T,fz,hw,hc,hr⟩:=h.blk b k m hb hd hd' hm
  have hlt:=(N7.1 hw).1
  exact⟨arr,T,fz,by rw[old hlt];exact hw,hc,fun e=>by
   obtain⟨a1,a2,a3,a4,a5,a6⟩:=hr.1 e
   exact⟨a1,a2,a3,a4,a5,by rw[if_neg oM];exact a6⟩,hr.2⟩
def Mu.set(μ:Mu)(b:Nat)(m:Zz):Mu:=fun k=>if k=b then some m else μ k
theorem Mu.set_self(μ:Mu)(b:Nat)(m:Zz):μ.set b m b=some m:=by simp[Mu.set]
theorem Mu.J4(μ:Mu){b k:Nat}(m:Zz)(h:k≠b):μ.set b m k=μ k:=by simp[Mu.set,h]
theorem JZ.adopt{K:Nat→Option Obj}{B:Bs}{μ:Mu}{H:Gb}{w:World}(h:JZ K B μ H w){c:Nat}{arr:Array Value}{T:TypeId}(hK:K c=some (.cells arr T))(hB:B.heap.size≤c)
  {k:JI}(hk:k.mode=.rw){s:Nat}(hl:(k.Jf=0→s=0)∧s+k.cells.length≤arr.size)(hμ:μ H.length=some ⟨c,s,k.Jf,arr.size⟩)
  (hv:∀(i:Nat)(x:CV),k.cells[i]?=some x→∃v,arr[s+i]?=some v∧V μ x v):
  JZ (fun d=>if d=c then none else K d) B μ (H++[k]) w:=by
 have hw:=h.kept c _ hK
 have get:∀{b:Nat}{q:JI},(H++[k])[b]?=some q→(b<H.length∧H[b]?=some q)∨(b=H.length∧q=k):=by
  intro b q hb
  rcases Nat.lt_trichotomy b H.length with hlt|heq|hgt
  ·rw[QN hlt]at hb;exact .inl ⟨hlt,hb⟩
  ·subst heq;rw[List.getElem?_concat_length]at hb;exact .inr ⟨rfl,by simpa using hb.symm⟩
  ·rw[En (by simp;omega)]at hb;cases hb
 have far:∀{b:Nat}{q:JI}{m:Zz},H[b]?=some q→q.mode=.rw∨q.mode=.map→μ b=some m→m.c≠c:=by
  intro b q m hb hq hm e
  rcases hq with hq|hq
  case inr=>
   obtain⟨_,_,_,_,this⟩:=h.mp b q m hb hq hm
   rw[e,hK]at this
   cases this
  obtain⟨_,_,_,_,_,hr⟩:=h.blk b q m hb (by rw[hq];decide) (by rw[hq];decide) hm
  have:=(hr.1 hq).2.2.2.2.2
  rw[e,hK]at this
  cases this
 refine⟨h.base,fun d x hx=>?_,fun b q m hb hd hd' hm=>?_,fun b1 b2 k1 k2 m1 m2 h1 h2 r1 r2 hne e1 e2=>?_,fun b q m hb hd hm=>?_⟩
 rotate_left 3
 ·rcases get hb with⟨_,hb⟩|⟨rfl,rfl⟩
  ·obtain⟨ob,hw',hr,hB',hK'⟩:=h.mp b q m hb hd hm
   exact⟨ob,hw',hr,hB',by rw[if_neg (far hb (.inr hd) hm)];exact hK'⟩
  ·rw[hk]at hd;cases hd
 ·split at hx
  ·cases hx
  ·exact h.kept d x hx
 ·rcases get hb with⟨_,hb⟩|⟨rfl,rfl⟩
  ·obtain⟨a,T',fz,hw',hc,hr⟩:=h.blk b q m hb hd hd' hm
   refine⟨a,T',fz,hw',hc,fun e=>?_,hr.2⟩
   obtain⟨a1,a2,a3,a4,a5,a6⟩:=hr.1 e
   exact⟨a1,a2,a3,a4,a5,by rw[if_neg (far hb (.inl e) hm)];exact a6⟩
  ·rw[hμ]at hm
   simp only[Gx]at hm
   subst hm
   refine⟨arr,T,(0,0),hw,fun i x hi=>?_,fun _=>⟨rfl,rfl,hl,rfl,hB,sM⟩,fun e=>by rw[hk]at e;cases e⟩
   exact hv i x hi
 ·rcases get h1 with⟨_,h1⟩|⟨l1,q1⟩<;>rcases get h2 with⟨_,h2⟩|⟨l2,q2⟩
  ·exact h.inj b1 b2 k1 k2 m1 m2 h1 h2 r1 r2 hne e1 e2
  ·rw[l2,hμ]at e2;simp only[Gx]at e2;subst e2
   exact far h1 r1 e1
  ·rw[l1,hμ]at e1;simp only[Gx]at e1;subst e1
   cases hmd:k2.mode with
   |rw=>exact Ne.symm (far h2 (.inl hmd) e2)
   |map=>exact Ne.symm (far h2 (.inr hmd) e2)
   |ro=>
    obtain⟨_,_,_,_,_,hr2⟩:=h.blk b2 k2 m2 h2 r2 (by rw[hmd];decide) e2
    have:=hr2.2 hmd;dsimp only;omega
   |dead=>exact absurd hmd r2
  ·exact absurd (l1.trans l2.symm) hne
theorem JZ.kill{K:Nat→Option Obj}{B:Bs}{μ:Mu}{H:Gb}{w:World}(h:JZ K B μ H w){b:Nat}{k:JI}(hb:H[b]?=some k):JZ K B μ (H.set b {k with mode:=.dead}) w:=by
 have get:∀{b':Nat}{k':JI},(H.set b {k with mode:=.dead})[b']?=some k'→k'.mode≠.dead→H[b']?=some k':=by
  intro b' k' hb' hd
  by_cases hbb:b'=b
  ·subst hbb
   rw[KI ((Ni.1 hb).1)]at hb'
   simp only[Gx]at hb'
   subst hb'
   exact absurd rfl hd
  ·rw[JU (Ne.symm hbb)]at hb'
   exact hb'
 refine⟨h.base,h.kept,fun b' k' m hb' hd hd' hm=>h.blk b' k' m (get hb' hd) hd hd' hm,fun b1 b2 k1 k2 m1 m2 h1 h2 r1 r2 hne e1 e2=>?_,fun b' k' m hb' hd hm=>h.mp b' k' m (get hb' (by rw[hd];decide)) hd hm⟩
 exact h.inj b1 b2 k1 k2 m1 m2 (get h1 (by rcases r1 with r1|r1<;>(rw[r1];decide))) (get h2 r2) r1 r2 hne e1 e2
theorem JZ.own{K:Nat→Option Obj}{B:Bs}{μ:Mu}{H:Gb}{w:World}(h:JZ K B μ H w){b:Nat}{k:JI}{m:Zz}(hb:H[b]?=some k) (hrw:k.mode=.rw) (hm:μ b=some m):
  ∃arr T,w.heap[m.c]?=some (.cells arr T)∧arr.size=m.size∧m.Jf=k.Jf∧((k.Jf=0→m.s=0)∧m.s+k.cells.length≤m.size)∧B.heap.size≤m.c∧
   JZ (fun d=>if d=m.c then some (.cells arr T)else K d) B μ (H.set b {k with mode:=.dead}) w:=by
 obtain⟨arr,T,fz,hw,hc,hr⟩:=h.blk b k m hb (by rw[hrw];decide) (by rw[hrw];decide) hm
 obtain⟨a1,a2,a3,rfl,a5,a6⟩:=hr.1 hrw
 refine⟨arr,T,hw,a2,a1,a3,a5,?_⟩
 have hk:=h.kill hb
 refine⟨hk.base,fun d x hx=>?_,fun b' k' m' hb' hd hd' hm'=>?_,hk.inj,fun b' k' m' hb' hd hm'=>?_⟩
 ·split at hx
  ·rename_i e;subst e;simp only[Gx]at hx;subst hx;exact hw
  ·exact hk.kept d x hx
 ·obtain⟨a,T',fz,hw',hc',hr'⟩:=hk.blk b' k' m' hb' hd hd' hm'
  refine⟨a,T',fz,hw',hc',fun e=>?_,hr'.2⟩
  obtain⟨c1,c2,c3,c4,c5,c6⟩:=hr'.1 e
  have hne:b≠b':=fun e'=>by
   subst e'
   rw[KI ((Ni.1 hb).1)]at hb'
   simp only[Gx]at hb'
   subst hb'
   exact hd rfl
  rw[JU hne]at hb'
  have:=h.inj b b' k k' m m' hb hb' (.inl hrw) hd hne hm hm'
  exact⟨c1,c2,c3,c4,c5,by rw[if_neg (Ne.symm this)];exact c6⟩
 ·obtain⟨ob,hw',hr',hB',hK'⟩:=hk.mp b' k' m' hb' hd hm'
  have hne:b≠b':=fun e'=>by
   subst e'
   rw[KI ((Ni.1 hb).1)]at hb'
   simp only[Gx]at hb'
   subst hb'
   cases hd
  rw[JU hne]at hb'
  have:=h.inj b b' k k' m m' hb hb' (.inl hrw) (by rw[hd];decide) hne hm hm'
  exact⟨ob,hw',hr',hB',by rw[if_neg (Ne.symm this)];exact hK'⟩
theorem JZ.newObj{K:Nat→Option Obj}{B:Bs}{μ:Mu}{H:Gb}{w:World}(h:JZ K B μ H w){e z:Nat}(hμ:μ H.length=some ⟨w.heap.size,0,e,z⟩)(hK:K w.heap.size=none){k:JI}(hk:k.mode=.map){x:Obj}(hr:Ie B μ w.heap.size k x):
  JZ K B μ (H++[k]) (w.alloc x):=by
 have old:∀{c:Nat},c<w.heap.size→(w.alloc x).heap[c]?=w.heap[c]?:=fun hc=>Bh w _ _ hc
 have get:∀{b:Nat}{q:JI},(H++[k])[b]?=some q→(b<H.length∧H[b]?=some q)∨(b=H.length∧q=k):=by
  intro b q hb
  rcases Nat.lt_trichotomy b H.length with hlt|heq|hgt
  ·rw[QN hlt]at hb;exact .inl ⟨hlt,hb⟩
  ·subst heq;rw[List.getElem?_concat_length]at hb;exact .inr ⟨rfl,by simpa using hb.symm⟩
  ·rw[En (by simp;omega)]at hb;cases hb
 have small:∀{b:Nat}{q:JI}{m:Zz},H[b]?=some q→q.mode≠.dead→μ b=some m→m.c<w.heap.size:=by
  intro b q m hb hd hm
  by_cases hq:q.mode=.map
  ·obtain⟨_,hw,_⟩:=h.mp b q m hb hq hm
   exact(N7.1 hw).1
  ·obtain⟨_,_,_,hw,_⟩:=h.blk b q m hb hd hq hm
   exact(N7.1 hw).1
 refine⟨h.base.alloc h.base.size _,fun c y hx=>?_,fun b q m hb hd hd' hm=>?_,fun b1 b2 k1 k2 m1 m2 h1 h2 r1 r2 hne e1 e2=>?_,fun b q m hb hd hm=>?_⟩
 ·have:=h.kept c y hx
  rw[old (N7.1 this).1];exact this
 ·rcases get hb with⟨_,hb⟩|⟨rfl,rfl⟩
  ·obtain⟨arr,T,fz,hw,hr⟩:=h.blk b q m hb hd hd' hm
   exact⟨arr,T,fz,by rw[old (N7.1 hw).1];exact hw,hr⟩
  ·exact absurd hk hd'
 ·rcases get h1 with⟨_,h1⟩|⟨l1,q1⟩<;>rcases get h2 with⟨_,h2⟩|⟨l2,q2⟩
  ·exact h.inj b1 b2 k1 k2 m1 m2 h1 h2 r1 r2 hne e1 e2
  ·rw[l2,hμ]at e2;simp only[Gx]at e2;subst e2
   have:=small h1 (by rcases r1 with r1|r1<;>(rw[r1];decide)) e1
   dsimp only;omega
  ·rw[l1,hμ]at e1;simp only[Gx]at e1;subst e1
   have:=small h2 r2 e2
   dsimp only;omega
  ·exact absurd (l1.trans l2.symm) hne
 ·rcases get hb with⟨_,hb⟩|⟨rfl,rfl⟩
  ·obtain⟨ob,hw,hr⟩:=h.mp b q m hb hd hm
   exact⟨ob,by rw[old (N7.1 hw).1];exact hw,hr⟩
  ·rw[hμ]at hm;simp only[Gx]at hm;subst hm
   exact⟨x,Bj w _,hr,h.base.size,hK⟩
theorem JZ.setObj{K:Nat→Option Obj}{B:Bs}{μ:Mu}{H:Gb}{w:World}(h:JZ K B μ H w){b:Nat}{k:JI}{m:Zz}(hb:H[b]?=some k) (hk:k.mode=.map) (hm:μ b=some m)
  {k2:JI} (hk2:k2.mode=.map) {x:Obj} (hr:Ie B μ m.c k2 x):
  JZ K B μ (H.set b k2) {w with heap:=w.heap.setIfInBounds m.c x}:=by
 obtain⟨_,hw,_,hB,hK⟩:=h.mp b k m hb hk hm
 have hlt:=(N7.1 hw).1
 have hlb:=(Ni.1 hb).1
 have RG:∀{c:Nat},c≠m.c→(w.heap.setIfInBounds m.c x)[c]?=w.heap[c]?:=fun hc=>by simp[Ne.symm hc]
 have get:∀{b':Nat}{k':JI},(H.set b k2)[b']?=some k'→∃k'',H[b']?=some k''∧k''.mode=k'.mode∧(b'≠b→k''=k'):=by
  intro b' k' hb'
  by_cases hbb:b'=b
  ·subst hbb
   rw[KI hlb]at hb'
   simp only[Gx]at hb'
   subst hb'
   exact⟨k,hb,by rw[hk,hk2],fun e=>absurd rfl e⟩
  ·rw[JU (Ne.symm hbb)]at hb'
   exact⟨k',hb',rfl,fun _=>rfl⟩
 refine⟨h.base.trans ⟨rfl,rfl,rfl,sM,fun q hq=>RG oM⟩,fun c y hx=>?_,fun b' q m' hb' hd hd' hm'=>?_,fun b1 b2 k1 k2 m1 m2 h1 h2 r1 r2 hne e1 e2=>?_,fun b' q m' hb' hd hm'=>?_⟩
 ·have hne:c≠m.c:=fun e=>by rw[e,hK]at hx;cases hx
  rw[RG hne];exact h.kept c y hx
 ·obtain⟨q',g1,g2,g3⟩:=get hb'
  have hbb:b'≠b:=fun e=>by
   subst e
   rw[hb]at g1;simp only[Gx]at g1;subst g1
   exact hd' (by rw[←g2];exact hk)
  have:=g3 hbb;subst this
  obtain⟨arr,T,fz,hw',hr'⟩:=h.blk b' q' m' g1 hd hd' hm'
  exact⟨arr,T,fz,by rw[RG (Ne.symm (h.inj b b' k q' m m' hb g1 (.inr hk) hd (Ne.symm hbb) hm hm'))];exact hw',hr'⟩
 ·obtain⟨q1,g1,f1,_⟩:=get h1
  obtain⟨q2,g2,f2,_⟩:=get h2
  exact h.inj b1 b2 q1 q2 m1 m2 g1 g2 (by rw[f1];exact r1) (by rw[f2];exact r2) hne e1 e2
 ·obtain⟨q',g1,g2,g3⟩:=get hb'
  by_cases hbb:b'=b
  ·subst hbb
   rw[hm]at hm';simp only[Gx]at hm';subst hm'
   rw[KI hlb]at hb'
   simp only[Gx]at hb'
   subst hb'
   exact⟨x,by simp[hlt],hr,hB,hK⟩
  ·have:=g3 hbb;subst this
   obtain⟨ob,hw',hr'⟩:=h.mp b' q' m' g1 hd hm'
   exact⟨ob,by rw[RG (Ne.symm (h.inj b b' k q' m m' hb g1 (.inr hk) (by rw[hd];decide) (Ne.symm hbb) hm hm'))];exact hw',hr'⟩
theorem JZ.there{K:Nat→Option Obj}{B:Bs}{μ:Mu}{H:Gb}{w:World}(h:JZ K B μ H w){b:Nat}{k:JI}{m:Zz}(hb:H[b]?=some k) (hd:k.mode≠.dead) (hm:μ b=some m):m.c<w.heap.size:=by
 by_cases hq:k.mode=.map
 ·obtain⟨_,hw,_⟩:=h.mp b k m hb hq hm
  exact(N7.1 hw).1
 ·obtain⟨_,_,_,hw,_⟩:=h.blk b k m hb hd hq hm
  exact(N7.1 hw).1
theorem JZ.loose{K:Nat→Option Obj}{B:Bs}{μ:Mu}{H:Gb}{w:World}(h:JZ K B μ H w){b:Nat}{k:JI}{m:Zz}(hb:H[b]?=some k) (hd:k.mode=.rw∨k.mode=.map) (hm:μ b=some m):K m.c=none:=by
 rcases hd with hd|hd
 ·obtain⟨_,_,_,_,_,hr,_⟩:=h.blk b k m hb (by rw[hd];decide) (by rw[hd];decide) hm
  exact(hr hd).2.2.2.2.2
 ·obtain⟨_,_,_,_,hK⟩:=h.mp b k m hb hd hm
  exact hK
theorem JZ.Y8{K:Nat→Option Obj}{B:Bs}{μ:Mu}{H:Gb}{w:World}(h:JZ K B μ H w){c:Nat}{o:Obj}(hc:K c=some o)(hB:B.heap.size≤c){b:Nat}{k:JI}{m:Zz}(hb:H[b]?=some k) (hd:k.mode≠.dead) (hm:μ b=some m):m.c≠c:=by
 intro e
 cases hmd:k.mode with
 |rw=>have:=h.loose hb (.inl hmd) hm;rw[e,hc]at this;cases this
 |map=>have:=h.loose hb (.inr hmd) hm;rw[e,hc]at this;cases this
 |ro=>
  obtain⟨_,_,_,_,_,_,hro⟩:=h.blk b k m hb hd (by rw[hmd];decide) hm
  have:=hro hmd;omega
 |dead=>exact hd hmd
end Go.Cs
namespace Go.Cs
open Go Go.RowKit
theorem MB{ν:Mu}{v:Value}{c:CV}(h:Yf v=some c):V ν c v:=by
 unfold Yf at h
 split at h<;>first|(simp only[Gx]at h;subst h;simp[V])|cases h
theorem Jl{ν:Mu}{E:Env}{a:Act}{x:Operand}{y:J7}(h:QK x=some y)(hE:∀t∈Ji y,V ν (E t) (a.tmps.getD t undef)):V ν (E.ev y) (a.eval x):=by
 cases x with
 |tmp t=>
  simp only[QK,Gx]at h
  subst h
  exact hE t (by simp[Ji])
 |const v=>
  simp only[QK,GR]at h
  obtain⟨c,hc,rfl⟩:=h
  exact MB hc
 |global g=>cases h
 |func f=>
  simp only[QK,Gx]at h
  subst h
  simp only[Env.ev,Act.eval,V]
  exact⟨#[],rfl,by simp[VL]⟩
theorem Kv{α:Type}:∀{l:List (Option α)}{r:List α},J3 l=some r→r.length=l.length
 |[],r,h=>by simp only[J3,Gx]at h;subst h;rfl
 |none::_,r,h=>by cases h
 |some a::l,r,h=>by
  simp only[J3,GR]at h
  obtain⟨q,hq,rfl⟩:=h
  simp[Kv hq]
theorem KU{α:Type}:∀{l:List (Option α)}{r:List α},J3 l=some r→∀{i:Nat}{x:α},r[i]?=some x→l[i]?=some (some x)
 |[],r,h,i,x,hx=>by simp only[J3,Gx]at h;subst h;simp at hx
 |none::_,r,h,_,_,_=>by cases h
 |some a::l,r,h,i,x,hx=>by
  simp only[J3,GR]at h
  obtain⟨q,hq,rfl⟩:=h
  cases i with
  |zero=>simpa using hx
  |succ i=>simpa using KU hq (by simpa using hx)
theorem Ui{ν:Mu}{E:Env}{a:Act}{l:Array Operand}{r:List J7}(h:WR l=some r)(hE:∀t∈r.flatMap Ji,V ν (E t) (a.tmps.getD t undef)):
  VL ν (r.map E.ev) (l.map a.eval).toList:=by
 unfold WR at h
 refine VL.Ac (by simp[Kv h]) fun i c hc=>?_
 rw[Ke,GR]at hc
 obtain⟨y,hy,rfl⟩:=hc
 have hx:=KU h hy
 rw[Ke,GR]at hx
 obtain⟨x,hx,hxy⟩:=hx
 refine⟨a.eval x,by simp[EM]at hx⊢;exact⟨x,hx,rfl⟩,Jl hxy fun t ht=>hE t ?_⟩
 exact List.mem_flatMap.2 ⟨y,JX hy,ht⟩
theorem Us{P:Program}{t:TypeId}{z:List CV}(ν:Mu)(h:zeroOf P t=some z):∃i v,P.info? t=some i∧i.zero=some v∧VL ν z v.cells.toList:=by
 unfold zeroOf at h
 rw[Jt]at h
 obtain⟨i,hi,h⟩:=h
 rw[Jt]at h
 obtain⟨v,hv,h⟩:=h
 refine⟨i,v,hi,hv,VL.Ac (by simp[Kv h]) fun j c hc=>?_⟩
 have hx:=KU h hc
 rw[Ke,GR]at hx
 obtain⟨x,hx,hxy⟩:=hx
 exact⟨x,hx,MB hxy⟩
theorem I9(off:Nat):∀(vs:List Value)(k:Nat)(cs:Array Value),off+k+vs.length≤cs.size→
  ((vs.zipIdx k).foldl (fun cs (c,j)=>cs.setIfInBounds (off+j) c) cs).toList=cs.toList.take (off+k)++vs++cs.toList.drop (off+k+vs.length)
 |[],k,cs,_=>by simp
 |v::vs,k,cs,h=>by
  simp only[List.length_cons]at h
  rw[List.zipIdx_cons,List.foldl_cons,I9 off vs (k+1) _ (by simp;omega)]
  have e:=list_seg_step cs.toList (off+k) v vs (by simp;omega)
  simpa[Array.toList_setIfInBounds,Nat.add_assoc]using e
theorem GdB{ν:Mu}{place:Nat→Option (Nat×Nat)}:∀{ps:List (Nat×Value)}{qs:List (Nat×Nat×CV)}{cs zs:List CV}{arr:Array Value},
  qs.length=ps.length→(∀(i:Nat)(q:Nat×Nat×CV),qs[i]?=some q→∃p,ps[i]?=some p∧place p.1=some (q.1,q.2.1)∧V ν q.2.2 p.2)→
  VL ν cs arr.toList→fill cs qs=some zs→∃out,Instr.fill place arr ps=some out∧VL ν zs out.toList
 |[],[],cs,zs,arr,_,_,hv,hf=>by
  simp only[fill,Gx]at hf
  subst hf
  exact⟨arr,rfl,hv⟩
 |p::ps,q::qs,cs,zs,arr,hl,h,hv,hf=>by
  obtain⟨off,size,c⟩:=q
  simp only[fill]at hf
  split at hf
  ·rename_i hc
   obtain⟨hc1,hc2⟩:=hc
   obtain⟨p',hp',hpl,hV⟩:=h 0 _ rfl
   simp at hp'
   subst hp'
   obtain⟨i,v⟩:=p
   dsimp only at hpl hV
   have hcl:=hV.cells
   have hlen:v.cells.size=size:=by have:=hcl.length;simp at this;omega
   have hal:arr.size=cs.length:=by have:=hv.length;simpa using this
   simp only[Instr.fill,hpl]
   rw[if_neg (by simp;omega)]
   have Gk9:(v.cells.zipIdx.foldl (fun cs x=>cs.setIfInBounds (off+x.2) x.1) arr).toList=arr.toList.take off++v.cells.toList++arr.toList.drop (off+v.cells.toList.length):=by
    have:=I9 off v.cells.toList 0 arr (by simp;omega)
    simp only[Nat.add_zero]at this
    rw[←this,←Array.foldl_toList,Array.toList_zipIdx]
   refine GdB (by simpa using hl) (fun i q hq=>by simpa using h (i+1) q (by simpa using hq)) ?_ hf
   rw[Gk9]
   exact hv.splice hcl off
  ·cases hf
 |[],_::_,_,_,_,hl,_,_,_=>by simp at hl
 |_::_,[],_,_,_,hl,_,_,_=>by simp at hl
theorem ZY{P:Program}{ν:Mu}{E:Env}{a:Act}{place:Nat→Option (Nat×Nat)}{parts:Array (Nat×Operand)}{ps:List (Nat×Nat×J7)}(h:VW P place parts=some ps)
  (hE:∀t∈ps.flatMap (fun p=>Ji p.2.2),V ν (E t) (a.tmps.getD t undef)){cs zs:List CV}{arr:Array Value}(hv:VL ν cs arr.toList)(hf:fill cs (KN E ps)=some zs):
  ∃out,Instr.fill place arr (parts.map fun x=>(x.1,a.eval x.2)).toList=some out∧VL ν zs out.toList:=by
 unfold VW at h
 refine GdB (by simp[KN,Kv h]) (fun i q hq=>?_) hv hf
 simp only[KN,Ke,GR]at hq
 obtain⟨y,hy,rfl⟩:=hq
 have hx:=KU h hy
 rw[Ke,GR]at hx
 obtain⟨x,hx,hxy⟩:=hx
 obtain⟨j,x⟩:=x
 rw[Jt]at hxy
 obtain⟨pl,hpl,hxy⟩:=hxy
 rw[GR]at hxy
 obtain⟨z,hz,rfl⟩:=hxy
 refine⟨(j,a.eval x),by simp[EM]at hx⊢;exact⟨_,_,hx,rfl,rfl⟩,hpl,Jl hz fun t ht=>hE t ?_⟩
 exact List.mem_flatMap.2 ⟨_,JX hy,ht⟩
end Go.Cs
namespace Go.Cs
open Go Go.RowKit
structure Streams(w w':World):Prop where
 os:w'.os=w.os
 tape:w'.tape=w.tape
 output:w'.output=w.output
theorem Streams.refl(w:World):Streams w w:=⟨rfl,rfl,rfl⟩
def Ku:Obj→Nat
 |.cells arr _ _=>arr.size
 |_=>0
def Fx(ν:Mu)(blk:JI)(m:Zz)(x:Obj):Prop:=
 (blk.mode=.rw∧m.s=0∧m.Jf=blk.Jf∧∃arr T,x=.cells arr T∧m.size=arr.size∧blk.cells.length≤arr.size∧∀(i:Nat)(c:CV),blk.cells[i]?=some c→∃v,arr[i]?=some v∧V ν c v)∨
 (blk.mode=.map∧blk.Jf=0∧∃es cl,x=.map es cl∧JY ν blk.cells es.toList∧MapKept.Stamped es cl)
theorem Fx.mono{ν ρ:Mu}(h:∀b m,ν b=some m→ρ b=some m){blk:JI}{m:Zz}{x:Obj}(f:Fx ν blk m x):Fx ρ blk m x:=by
 rcases f with⟨h1,h2,h3,arr,T,h4,h5,h6,h7⟩|⟨h1,h0,es,cl,h2,h3⟩
 ·exact .inl ⟨h1,h2,h3,arr,T,h4,h5,h6,fun i c hc=>let ⟨v,k1,k2⟩:=h7 i c hc;⟨v,k1,V.mono h _ _ k2⟩⟩
 ·exact .inr ⟨h1,h0,es,cl,h2,h3.1.mono h,h3.2⟩
def Vh(P:Program)(s:Sem Next)(w:World)(m:Option JI×(Nat→CV))(ν:Mu):Prop:=
 ∃v' w',s.run P w=.ok (.value v') w'∧Streams w w'∧
  match m.1 with
  |none=>w'.heap=w.heap∧∀k,V ν (m.2 k) v'
  |some blk=>∃x,w'.heap=w.heap.push x∧Fx ν blk ⟨w.heap.size,0,blk.Jf,Ku x⟩ x∧
   ∀(ρ:Mu)(k:Nat),(∀b m,ν b=some m→ρ b=some m)→ρ k=some ⟨w.heap.size,0,blk.Jf,Ku x⟩→V ρ (m.2 k) v'
theorem Vh.stay{P:Program}{s:Sem Next}{w:World}{f:Nat→CV}{ν:Mu}{v':Value}(h:s.run P w=.ok (.value v') w)(hv:∀k,V ν (f k) v'):Vh P s w (none,f) ν:=
 ⟨v',w,h,.refl w,rfl,hv⟩
theorem Vh.made{P:Program}{s:Sem Next}{w:World}{f:Nat→CV}{ν:Mu}{v':Value}{cells:List CV}{Jf:Nat}{arr:Array Value}{T:TypeId}(h:s.run P w=.ok (.value v') (w.alloc (.cells arr T)))
  (hc:VL ν cells arr.toList)(hv:∀(ρ:Mu)(k:Nat),(∀b m,ν b=some m→ρ b=some m)→ρ k=some ⟨w.heap.size,0,Jf,arr.size⟩→V ρ (f k) v'):Vh P s w (some ⟨cells,.rw,Jf⟩,f) ν:=by
 refine⟨v',_,h,⟨rfl,rfl,rfl⟩,.cells arr T,rfl,.inl ⟨rfl,rfl,rfl,arr,T,rfl,rfl,?_,fun i x hi=>?_⟩,hv⟩
 ·have:=hc.length;simp at this;simp[this]
 ·obtain⟨v,hv,hV⟩:=hc.get hi;exact⟨v,by simpa using hv,hV⟩
section
variable {P : Program} {ν : Mu} {E : Env} {a : Act} {w : World} {H : Gb} {K : Nat → Option Obj} {B : Bs}
theorem BL{t:TypeId}{g:Bool}(h:YC P t=some g):(isAgg t).run P w=.ok g w:=by
 unfold YC at h
 rw[GR]at h
 obtain⟨d,hd,rfl⟩:=h
 simp only[isAgg,Sem.run_bind,run_underlying hd,Result.andThen_ok]
 cases d<;>rfl
theorem Yx{t:TypeId}{n:Nat}(h:sizeT P t=some n):∃i,P.info? t=some i∧i.size=n:=by
 unfold sizeT at h
 rw[GR]at h
 exact h
theorem JE{t:TypeId}{n:Nat}(h:sizeT P t=some n):(sizeOf t).run P w=.ok n w:=by
 obtain⟨i,hi,rfl⟩:=Yx h
 simp[sizeOf,typeInfo,hi]
theorem Y7{t:TypeId}{i:TypeInfo}(h:P.info? t=some i):(typeInfo t).run P w=.ok i w:=by simp[typeInfo,h]
theorem Kj{t:TypeId}{i:TypeInfo}{v:Value}(h:P.info? t=some i)(hz:i.zero=some v):(zeroValue t).run P w=.ok v w:=by simp[zeroValue,typeInfo,h,hz]
theorem Jz{t e:TypeId}(h:Kt P t=some e):P.underlying t=some (.slice e):=by
 unfold Kt at h
 split at h
 ·rename_i h';simp only[Gx]at h;subst h;exact h'
 ·cases h
theorem G_{α:Type}{b:Bool}{x:Option α}{r:α}(h:Qa b x=some r):b=true∧x=some r:=by
 unfold Qa at h
 split at h
 ·exact⟨by assumption,h⟩
 ·cases h
theorem IG(hS:JZ K B ν H w){t:TypeId}{g:Bool}{n b o:Nat}(hg:YC P t=some g)(hn:sizeT P t=some n){v:CV}(hl:(if g=true then(Km H b o n).map .agg else QF H b o)=some v){m:Zz}(hm:ν b=some m):
  ∃v',(loadVar t ⟨m.c,m.s+o,none⟩).run P w=.ok v' w∧V ν v v':=by
 simp only[loadVar,Sem.run_bind,BL hg,Result.andThen_ok]
 cases g with
 |true=>
  simp only[if_true,GR]at hl⊢
  obtain⟨cs,hcs,rfl⟩:=hl
  obtain⟨hlen,vs,hvs,hcell⟩:=hS.Km hcs hm
  have hvl:vs.length=n:=by rw[hvs.length,hlen]
  have hr:=run_loadCells_list (P:=P) w ⟨m.c,m.s+o,none⟩ vs (fun j v hv=>by rw[Addr.add_lit];exact hcell j v hv)
  rw[hvl]at hr
  refine⟨.agg vs.toArray,by simp[JE hn,hr],?_⟩
  simp only[V]
  exact⟨_,rfl,by simpa using hvs⟩
 |false=>
  simp only[Bool.false_eq_true,if_false]at hl⊢
  obtain⟨v',hv',hV⟩:=hS.QF hl hm
  exact⟨v',by simp[hv'],hV⟩
theorem GgB{op:BinOp}{t:TypeId}{x y:Operand}{k:IntKind}{p q:Int}{r:CV}(hx:a.eval x=.int k p)(hy:a.eval y=.int k q)(h:Kk op k p q=some r):
  ∃v',(do eqGuard op t x y (a.eval x) (a.eval y);binOp op t (a.eval x) (a.eval y):Sem Value).run P w=.ok v' w∧V ν r v':=by
 rw[hx,hy]
 cases op<;>simp only[Kk]at h
 case quo=>
  split at h
  ·cases h
  ·rename_i h0;simp only[Gx]at h;subst h;exact⟨.int k (k.wrap (p.tdiv q)),by simp[binOp,eqGuard,Op.intDiv,h0],by simp[V]⟩
 case rem=>
  split at h
  ·cases h
  ·rename_i h0;simp only[Gx]at h;subst h;exact⟨.int k (p.tmod q),by simp[binOp,eqGuard,Op.intDiv,h0],by simp[V]⟩
 all_goals first
  |cases h;done
  |(simp only[Gx]at h;subst h;refine⟨_,by simp[binOp,eqGuard,Op.intArith,Op.intCmp,Op.intBits];rfl,?_⟩;simp[V])
theorem Gcr{op:BinOp}{t:TypeId}{x y:Operand}{k k':IntKind}{p q:Int}{r:CV}(hx:a.eval x=.int k p)(hy:a.eval y=.int k' q)(h:shiftOp op k p q=some r):
  ∃v',(do eqGuard op t x y (a.eval x) (a.eval y);binOp op t (a.eval x) (a.eval y):Sem Value).run P w=.ok v' w∧V ν r v':=by
 rw[hx,hy]
 unfold shiftOp at h
 split at h
 ·cases h
 ·rename_i h0
  cases op<;>simp only[Gx]at h<;>first
   |cases h;done
   |(subst h;refine⟨_,by simp[binOp,eqGuard,Op.shift,h0];rfl,?_⟩;simp[V])
theorem D9(d:Nat)(xs ys:Array Value):∀(fs:List Field)(k:Nat)(cs ds:List CV)(r:Bool),
  (∀i f,fs[i]?=some f→f.name≠ "_" ∧f.offset=k+i∧∃kd,P.underlying f.type=some (.int kd))→
  VL ν cs (xs.toList.drop k)→VL ν ds (ys.toList.drop k)→cs.length=fs.length→Nv cs ds=some r→
  (Op.eqFields (d+1) xs ys fs).run P w=.ok r w
 |[],k,cs,ds,r,_,hx,hy,hl,he=>by
  match cs,ds,hl,he with
  |[],[],_,he=>simp only[Nv,Gx]at he;subst he;simp[Op.eqFields]
 |f::fs,k,cs,ds,r,hf,hx,hy,hl,he=>by
  obtain⟨hname,hoff,hty⟩:=hf 0 f rfl
  simp only[Nat.add_zero]at hoff
  match cs,ds,hl with
  |c::cs,[],_=>cases c<;>simp[Nv]at he
  |c::cs,e::ds,hl=>
   have hx1:=hx
   have hy1:=hy
   simp only[VL]at hx1 hy1
   obtain⟨v,xr,hxe,hxv,OG⟩:=hx1
   obtain⟨u,yr,hye,hyv,hyr⟩:=hy1
   have gx:xs[k]?=some v:=by
    have:(xs.toList.drop k)[0]?=some v:=by rw[hxe];rfl
    simpa[Yo]using this
   have gy:ys[k]?=some u:=by
    have:(ys.toList.drop k)[0]?=some u:=by rw[hye];rfl
    simpa[Yo]using this
   have dx:xs.toList.drop (k+1)=xr:=by rw[←List.drop_drop (i:=1) (j:=k)]<;>simp[hxe,Nat.add_comm]
   have dy:ys.toList.drop (k+1)=yr:=by rw[←List.drop_drop (i:=1) (j:=k)]<;>simp[hye,Nat.add_comm]
   have part:∀(zs:Array Value)(z:Value),zs[k]?=some z→(part f.type zs f.offset).run P w=.ok z w:=by
    intro zs z hz
    have hna:(isAgg f.type).run P w=.ok false w:=by
     obtain⟨kd,h⟩:=hty;simp[isAgg,run_underlying h]
    simp only[Go.part,Sem.run_bind,hna,Result.andThen_ok,Bool.false_eq_true,if_false,hoff,hz,Sem.run_pure]
   have rest:=fun r' (he':Nv cs ds=some r')=>D9 d xs ys fs (k+1) cs ds r' (fun i g hg=>by
    have:=hf (i+1) g (by simpa using hg)
    exact⟨this.1,oM,this.2.2⟩) (by rw[dx];exact OG) (by rw[dy];exact hyr) (by simpa using hl) he'
   simp only[Op.eqFields,hname,ne_eq,not_false_eq_true,if_true,Sem.run_bind,part _ _ gx,part _ _ gy,Result.andThen_ok]
   cases c<;>cases e<;>simp only[Nv]at he<;>try (cases he;done)
   ·rename_i k1 p k2 q
    split at he
    ·rename_i hk
     subst hk
     rw[GR]at he
     obtain⟨r',he',hr⟩:=he
     simp only[V]at hxv hyv
     subst hxv;subst hyv
     obtain⟨kd,h⟩:=hty
     rw[run_equalIn_int w d f.type k1 kd p q h]
     simp only[Result.andThen_ok]
     cases hpq:(p==q)
     ·simp[hpq]at hr;subst hr;simp
     ·simp[hpq]at hr;subst hr;simp[rest _ he']
    ·cases he
theorem FU(d:Nat){e:TypeId}(hb:P.underlying e=some .bool)(xs ys:Array Value):∀(n k:Nat)(cs ds:List CV)(r:Bool),
  VL ν cs (xs.toList.drop k)→VL ν ds (ys.toList.drop k)→cs.length=n→Vp cs ds=some r→
  (Op.eqItems (d+1) e 1 xs ys (List.range' k n)).run P w=.ok r w
 |0,k,cs,ds,r,hx,hy,hl,he=>by
  match cs,ds,hl,he with
  |[],[],_,he=>simp only[Vp,Gx]at he;subst he;simp[Op.eqItems]
 |n+1,k,cs,ds,r,hx,hy,hl,he=>by
  match cs,ds,hl with
  |c::cs,[],_=>cases c<;>simp[Vp]at he
  |c::cs,g::ds,hl=>
   have hx1:=hx
   have hy1:=hy
   simp only[VL]at hx1 hy1
   obtain⟨v,xr,hxe,hxv,OG⟩:=hx1
   obtain⟨u,yr,hye,hyv,hyr⟩:=hy1
   have gx:xs[k]?=some v:=by
    have:(xs.toList.drop k)[0]?=some v:=by rw[hxe];rfl
    simpa[Yo]using this
   have gy:ys[k]?=some u:=by
    have:(ys.toList.drop k)[0]?=some u:=by rw[hye];rfl
    simpa[Yo]using this
   have dx:xs.toList.drop (k+1)=xr:=by rw[←List.drop_drop (i:=1) (j:=k)]<;>simp[hxe,Nat.add_comm]
   have dy:ys.toList.drop (k+1)=yr:=by rw[←List.drop_drop (i:=1) (j:=k)]<;>simp[hye,Nat.add_comm]
   have part:∀(zs:Array Value)(z:Value),zs[k]?=some z→(part e zs (k*1)).run P w=.ok z w:=by
    intro zs z hz
    have hna:(isAgg e).run P w=.ok false w:=by simp[isAgg,run_underlying hb]
    simp only[Go.part,Sem.run_bind,hna,Result.andThen_ok,Bool.false_eq_true,if_false,Nat.mul_one,hz,Sem.run_pure]
   have rest:=fun r' (he':Vp cs ds=some r')=>FU d hb xs ys n (k+1) cs ds r' (by rw[dx];exact OG) (by rw[dy];exact hyr) (by simpa using hl) he'
   simp only[List.range'_succ,Op.eqItems,Sem.run_bind,part _ _ gx,part _ _ gy,Result.andThen_ok]
   cases c<;>cases g<;>simp only[Vp]at he<;>try (cases he;done)
   ·rename_i p q
    rw[GR]at he
    obtain⟨r',he',hr⟩:=he
    simp only[V]at hxv hyv
    subst hxv;subst hyv
    rw[run_equalIn_bool w d e p q hb]
    simp only[Result.andThen_ok]
    cases hpq:(p==q)
    ·simp[hpq]at hr;subst hr;simp
    ·simp[hpq]at hr;subst hr;simp[rest _ he']
theorem Ghv{t e:TypeId}{n:Nat}{x y:Operand}{cs ds:List CV}{r:Bool}{vx vy:Value}(hu:P.underlying t=some (.array n e))(hb:Rl P e=true)(hs:sizeT P e=some 1)(hg:P.eqGuardType P.depth t=false)
  (hx:V ν (.agg cs) vx)(hy:V ν (.agg ds) vy)(he:Vp cs ds=some r)(hl:cs.length=n):
  (eqGuard .eql t x y vx vy).run P w=.ok () w∧(eqGuard .neq t x y vx vy).run P w=.ok () w∧
  (binOp .eql t vx vy).run P w=.ok (.bool r) w∧(binOp .neq t vx vy).run P w=.ok (.bool (!r)) w:=by
 have hbu:P.underlying e=some .bool:=by
  unfold Rl at hb
  split at hb
  ·assumption
  ·cases hb
 obtain⟨i,hi,hsz⟩:=Yx hs
 simp only[V]at hx hy
 obtain⟨xs,rfl,hxs⟩:=hx
 obtain⟨ys,rfl,hys⟩:=hy
 have hc:P.cellsOf e=1:=by simp[Program.cellsOf,hi,hsz]
 have heq:(Op.equalIn 10000 t (.agg xs) (.agg ys)).run P w=.ok r w:=by
  rw[show(10000:Nat)=9999+1 from rfl,run_equalIn_array w 9999 xs ys hu hi,hc,List.range_eq_range']
  exact FU 9998 hbu xs ys n 0 cs ds r (by simpa using hxs) (by simpa using hys) hl he
 exact⟨run_eqGuard_agg w .eql t x y xs ys hg,run_eqGuard_agg w .neq t x y xs ys hg,by rw[run_eql_struct,heq];rfl,by rw[run_neq_struct,heq];rfl⟩
theorem S_{t:TypeId}(h:Yh P t=true):∃fs,P.underlying t=some (.struct fs)∧P.stoodInHeld t=false∧P.eqGuardType P.depth t=false∧
  ∀i f,fs.toList[i]?=some f→f.name≠ "_" ∧f.offset=0+i∧∃kd,P.underlying f.type=some (.int kd):=by
 unfold Yh at h
 split at h
 ·rename_i fs hu
  simp only[JQ,Bool.not_eq_true']at h
  obtain⟨⟨h1,h2⟩,h3⟩:=h
  refine⟨fs,hu,h1,h2,fun i f hf=>?_⟩
  rw[List.all_eq_true]at h3
  have hm:(f,i)∈fs.toList.zipIdx:=by
   rw[List.mem_iff_getElem?]
   exact⟨i,by simp[List.getElem?_zipIdx,hf]⟩
  have:=h3 _ hm
  simp only[JQ,bne_iff_ne,ne_eq,beq_iff_eq]at this
  obtain⟨⟨g1,g2⟩,g3⟩:=this
  refine⟨g1,oM,?_⟩
  split at g3
  ·rename_i kd hk;exact⟨kd,hk⟩
  ·cases g3
 ·cases h
theorem R8{t:TypeId}{x y:Operand}{cs ds:List CV}{r:Bool}{vx vy:Value}(hf:Yh P t=true)(hx:V ν (.agg cs) vx)(hy:V ν (.agg ds) vy)(he:Nv cs ds=some r)(hl:∃fs,P.underlying t=some (.struct fs)∧cs.length=fs.size):
  (eqGuard .eql t x y vx vy).run P w=.ok () w∧(eqGuard .neq t x y vx vy).run P w=.ok () w∧
  (binOp .eql t vx vy).run P w=.ok (.bool r) w∧(binOp .neq t vx vy).run P w=.ok (.bool (!r)) w:=by
 obtain⟨fs,hu,h1,h2,h3⟩:=S_ hf
 simp only[V]at hx hy
 obtain⟨xs,rfl,hxs⟩:=hx
 obtain⟨ys,rfl,hys⟩:=hy
 obtain⟨fs',hu',hlen⟩:=hl
 rw[hu]at hu'
 simp only[Gx,TypeDesc.struct.injEq]at hu'
 subst hu'
 have hfo:P.fieldsOf t=fs:=by simp[Program.fieldsOf,hu]
 have hrun:=D9 (P:=P) (w:=w) 9998 xs ys fs.toList 0 cs ds r h3 (by simpa using hxs) (by simpa using hys) (by simpa using hlen) he
 have heq:(Op.equalIn 10000 t (.agg xs) (.agg ys)).run P w=.ok r w:=by
  rw[show(10000:Nat)=9999+1 from rfl,run_equalIn_agg w 9999 t xs ys (by rw[hfo];exact hu) h1,hfo]
  exact hrun
 exact⟨run_eqGuard_agg w .eql t x y xs ys h2,run_eqGuard_agg w .neq t x y xs ys h2,by rw[run_eql_struct,heq];rfl,by rw[run_neq_struct,heq];rfl⟩
end
end Go.Cs
namespace Go.Cs
open Go Go.RowKit
theorem wrap_small{n:Int}(h:0≤n)(h':n≤16777216):IntKind.i64.wrap n=n:=by
 have e:n % (2 ^ 64:Int)=n:=by omega
 simp only[IntKind.wrap,IntKind.bits,IntKind.signed,e]
 split
 ·rename_i hc;simp at hc;omega
 ·rfl
section
variable {P : Program} {ν : Mu} {E : Env} {a : Act} {w : World} {H : Gb} {K : Nat → Option Obj} {B : Bs}
theorem UC{x:Operand}{y:J7}(h:QK x=some y)(hE:∀t∈Ji y,V ν (E t) (a.tmps.getD t undef)){m m' r:Nat}{code:BoundsCode}(hb:bound E y m=some r)(hm:m≤m'):
  (Instr.sliceBound (a.eval x) m' code).run P w=.ok r w∧r≤m:=by
 have hv:=Jl h hE
 unfold bound at hb
 split at hb
 ·rename_i k i he
  split at hb
  ·rename_i hc
   simp only[Gx]at hb
   subst hb
   rw[he]at hv
   simp only[V]at hv
   rw[hv]
   have:0≤i∧i≤(m':Int):=⟨hc.1,oM⟩
   exact⟨by simp[Instr.sliceBound,asIntOf,this],oM⟩
  ·cases hb
 ·cases hb
theorem Uc{x:Option Operand}{y:Option J7}(h:Ig x=some y):(x=none∧y=none)∨∃p q,x=some p∧y=some q∧QK p=some q:=by
 cases x with
 |none=>simp only[Ig,Gx]at h;exact .inl ⟨rfl,h.symm⟩
 |some p=>
  simp only[Ig,GR]at h
  obtain⟨q,hq,rfl⟩:=h
  exact .inr ⟨p,q,rfl,rfl,hq⟩
theorem AZ{lo hi mx:Option Operand}{lo' hi' mx':Option J7}{len cap cap':Nat}{r:Nat×Nat×Nat}(hlo:Ig lo=some lo')(hhi:Ig hi=some hi')(hmx:Ig mx=some mx')
  (hE:∀t∈Ng lo'++Ng hi'++Ng mx',V ν (E t) (a.tmps.getD t undef))(hl:len≤cap)(hc:cap≤cap')(h:Aw E len cap lo' hi' mx'=some r):
  (Instr.sliceBounds true len cap' (lo.map a.eval) (hi.map a.eval) (mx.map a.eval)).run P w=.ok (r.1,r.2.1,if mx'.isSome then r.2.2 else cap') w∧r.1≤r.2.1∧r.2.1≤r.2.2∧r.2.2≤cap∧(mx'.isSome=false→r.2.2=cap):=by
 have El:∀q,lo'=some q→∀t∈Ji q,V ν (E t) (a.tmps.getD t undef):=fun q hq t ht=>hE t (by simp[hq,Ng,ht])
 have Eh:∀q,hi'=some q→∀t∈Ji q,V ν (E t) (a.tmps.getD t undef):=fun q hq t ht=>hE t (by simp[hq,Ng,ht])
 have Em:∀q,mx'=some q→∀t∈Ji q,V ν (E t) (a.tmps.getD t undef):=fun q hq t ht=>hE t (by simp[hq,Ng,ht])
 unfold Aw at h
 split at h
 ·cases h
 ·rename_i hmh
  rw[Jt]at h
  obtain⟨m,hm,h⟩:=h
  rw[Jt]at h
  obtain⟨hh,hhh,h⟩:=h
  rw[Jt]at h
  obtain⟨l,hll,h⟩:=h
  simp only[Gx]at h
  subst h
  unfold Instr.sliceBounds
  rcases Uc hmx with⟨rfl,rfl⟩|⟨pm,qm,rfl,rfl,hpm⟩
  ·simp only[Af,Gx]at hm
   subst hm
   rcases Uc hhi with⟨rfl,rfl⟩|⟨ph,qh,rfl,rfl,hph⟩
   ·simp only[Af,Gx]at hhh
    subst hhh
    rcases Uc hlo with⟨rfl,rfl⟩|⟨pl,ql,rfl,rfl,hpl⟩
    ·simp only[Af,Gx]at hll
     subst hll
     simp;omega
    ·obtain⟨r1,r2⟩:=UC (P:=P) (w:=w) (code:=.sliceB) hpl (El _ rfl) hll (Nat.le_refl _)
     simp[r1];omega
   ·obtain⟨h1,h2⟩:=UC (P:=P) (w:=w) (code:=.sliceAcap) hph (Eh _ rfl) hhh hc
    rcases Uc hlo with⟨rfl,rfl⟩|⟨pl,ql,rfl,rfl,hpl⟩
    ·simp only[Af,Gx]at hll
     subst hll
     simp[h1];omega
    ·obtain⟨r1,r2⟩:=UC (P:=P) (w:=w) (code:=.sliceB) hpl (El _ rfl) hll (Nat.le_refl _)
     simp[h1,r1];omega
  ·obtain⟨m1,m2⟩:=UC (P:=P) (w:=w) (code:=.slice3Acap) hpm (Em _ rfl) hm hc
   rcases Uc hhi with⟨rfl,rfl⟩|⟨ph,qh,rfl,rfl,hph⟩
   ·simp at hmh
   ·obtain⟨h1,h2⟩:=UC (P:=P) (w:=w) (code:=.slice3B) hph (Eh _ rfl) hhh (Nat.le_refl _)
    rcases Uc hlo with⟨rfl,rfl⟩|⟨pl,ql,rfl,rfl,hpl⟩
    ·simp only[Af,Gx]at hll
     subst hll
     simp[m1,h1];omega
    ·obtain⟨r1,r2⟩:=UC (P:=P) (w:=w) (code:=.slice3C) hpl (El _ rfl) hll (Nat.le_refl _)
     simp[m1,h1,r1];omega
theorem GbI{t e:TypeId}{n:Nat}{x:Operand}{y:J7}{lo hi mx:Option Operand}{lo' hi' mx':Option J7}{r:CV}
  (hu:P.underlying t=some (.slice e))(hn:sizeT P e=some n)(hx:QK x=some y)(hlo:Ig lo=some lo')(hhi:Ig hi=some hi')(hmx:Ig mx=some mx')
  (hE:∀t∈Ko.tmps (.slice n y lo' hi' mx'),V ν (E t) (a.tmps.getD t undef))(h:sliceTo E n (E.ev y) lo' hi' mx'=some r):
  ∃v',(Instr.sliceAt t (a.eval x) (lo.map a.eval) (hi.map a.eval) (mx.map a.eval)).run P w=.ok v' w∧V ν r v':=by
 have hv:=Jl hx (fun t ht=>hE t (by simp[Ko.tmps,ht]))
 have hE':∀t∈Ng lo'++Ng hi'++Ng mx',V ν (E t) (a.tmps.getD t undef):=fun t ht=>hE t (by simp[Ko.tmps]at ht⊢;rcases ht with h|h|h<;>simp[h])
 generalize E.ev y=cy at*
 unfold sliceTo at h
 simp only[Instr.sliceAt,Sem.run_bind,run_underlying hu,Result.andThen_ok,Instr.slice]
 split at h
 ·simp only[V]at hv
  rw[hv]
  rw[GR]at h
  obtain⟨q,hq,rfl⟩:=h
  obtain⟨hr,h1,h2,h3,h4⟩:=AZ (P:=P) (w:=w) (cap':=0) hlo hhi hmx hE' (Nat.le_refl 0) (Nat.le_refl 0) hq
  have e1:q.2.2=0:=by omega
  have e2:q.2.1=0:=by omega
  have e3:q.1=0:=by omega
  refine⟨.slice none 0 0,?_,by simp[V]⟩
  simp[hr,JE hn,e1,e2,e3]
 ·rename_i b o len cap e' tail
  split at h
  ·rename_i hlc
   obtain⟨rfl,hlc⟩:=hlc
   rw[GR]at h
   obtain⟨q,hq,rfl⟩:=h
   simp only[V]at hv
   obtain⟨m,cap',off,hb,hez,he,hlen,htail,hoff,hfit⟩:=hv
   have hcc:cap≤cap':=by split at htail<;>omega
   obtain⟨hr,h1,h2,h3,h4⟩:=AZ (P:=P) (w:=w) hlo hhi hmx hE' hlc hcc hq
   rw[he]
   generalize hM:(if mx'.isSome=true then q.2.2 else cap')=M at hr
   have hMc:M≤cap':=by rw[←hM];split<;>omega
   have hMh:q.2.1≤M:=by rw[←hM];split<;>omega
   refine⟨.slice (if M=q.1 then some ⟨m.c,off,none⟩else some ((⟨m.c,off,none⟩:Addr).add (q.1*e'))) (q.2.1-q.1) (M-q.1),by simp[hr,JE hn],?_⟩
   simp only[V]
   rcases Nat.eq_or_lt_of_le (Jr h1 hMh)with heq|hlt
   ·refine⟨m,0,off,hb,hez,by rw[if_pos heq.symm,←heq,Nat.sub_self],oM,?_,.inl rfl,?_⟩
    ·split
     ·rename_i ht
      simp only[JQ,Option.isNone_iff_eq_none]at ht
      have:mx'.isSome=false:=by simp[ht.2]
      rw[this]at hM
      simp at hM
      have:=h4 this
      omega
     ·rename_i ht
      cases WW:mx'.isSome with
      |true=>rw[WW]at hM;simp at hM;omega
      |false=>
       rw[WW]at hM
       simp at hM
       have:=h4 WW
       omega
    ·have:0≤cap'*m.Jf:=Nat.zero_le _
     omega
   ·have hcap0:0<cap':=by omega
    have Zb:off=m.s+o:=by rcases hoff with h|h<;>omega
    refine⟨m,M-q.1,off+q.1*e',hb,hez,by rw[if_neg oM];simp[Addr.add_lit],oM,?_,.inr (by rw[Zb];omega),?_⟩
    ·split
     ·rename_i ht
      simp only[JQ,Option.isNone_iff_eq_none]at ht
      have hf:mx'.isSome=false:=by simp[ht.2]
      have:=h4 hf
      rw[hf]at hM
      simp at hM
      omega
     ·rename_i ht
      cases WW:mx'.isSome with
      |true=>rw[WW]at hM;simp at hM;omega
      |false=>
       rw[WW]at hM
       simp at hM
       have h5:=h4 WW
       have:tail=false:=by
        cases tail
        ·rfl
        ·simp at ht;simp[ht]at WW
       subst this
       simp at htail
       omega
    ·rw[hez]at hfit⊢
     have:q.1*e'+(M-q.1)*e'=M*e':=by rw[←Nat.add_mul];congr 1;omega
     have h6:M*e'≤cap'*e':=Nat.mul_le_mul_right _ hMc
     omega
  ·cases h
 ·cases h
end
end Go.Cs
namespace Go.Cs
open Go Go.RowKit
theorem nextslicecap_le{need old:Nat}(h:old<need):Builtin.nextslicecap need old≤2*need+1024:=by
 unfold Builtin.nextslicecap
 split
 ·omega
 ·split
  ·omega
  ·rw[growBy_four]
   repeat' split
   all_goals omega
theorem EI{P:Program}{w w':World}{s:Sem Value}{v:Value}(h:s.run P w=.ok v w'):(do pure (.value (←s)):Sem Next).run P w=.ok (.value v) w':=by simp[h]
section
variable {P : Program} {ν : Mu} {E : Env} {a : Act} {w : World} {H : Gb} {K : Nat → Option Obj} {B : Bs}
structure GcP(P:Program)(t u:TypeId)(n:Nat)(e:TypeId)(i:TypeInfo)(z:Value):Prop where
 ht:P.underlying t=some (.slice e)
 hu:∃e',P.underlying u=some (.slice e')
 hi:P.info? e=some i
 hz:i.zero=some z
 hn:i.size=n
 hzl:z.cells.size=n
 hb:i.bytes≤4096
 hpos:0<n
theorem Zv{t u ty e:TypeId}{n:Nat}{i:TypeInfo}{z:Value}(hT:GcP P t u n e i z){base:Option Addr}{sLen sCap:Nat}{x:Value}{k:Nat}{old new:Array Value}(hx:(Builtin.lenOf x).run P w=.ok k w)
  (hgrow:sCap<sLen+k)(hmax:sLen+k≤JG)(hold:∀w',w'.heap=w.heap→(Builtin.firstCells n sLen (.slice base sLen sCap)).run P w'=.ok old w')
  (hnew:∀w',w'.heap=w.heap→(Builtin.firstCells n k x).run P w'=.ok new w')(hos:old.size=sLen*n)(hns:new.size=k*n):
  ∃cap' rest,(Builtin.append_ #[t,u] ty #[.slice base sLen sCap,x]).run P w=.ok (.slice (some ⟨w.heap.size,0,none⟩) (sLen+k) cap') (w.drew.alloc (.cells (old++new++rest) e))∧
   sLen+k≤cap'∧(old++new++rest).size=cap'*n:=by
 obtain⟨e',hu⟩:=hT.hu
 have hd:∀w',w'.heap=w.heap→(Builtin.firstCells n sLen (.slice base sLen sCap)).run P w'=.ok old w':=hold
 have h1:=hold w.drew rfl
 have h2:=hnew w.drew rfl
 have hcap:=nextslicecap_le hgrow
 have hbig:¬(Builtin.nextslicecap (sLen+k) sCap*i.bytes>2 ^ 48):=by
  have:Builtin.nextslicecap (sLen+k) sCap*i.bytes≤(2*(sLen+k)+1024)*4096:=Nat.mul_le_mul hcap hT.hb
  simp only[JG]at hmax
  omega
 have hmx:¬((IntKind.i64.max:Int)<(sLen:Int)+(k:Int)):=by
  have:IntKind.i64.max=9223372036854775807:=by decide
  simp only[JG]at hmax
  omega
 refine⟨sLen+k+w.tape w.drawn (.appendCap (sLen+k) sCap e) % (2 ^ 63-(sLen+k)),Builtin.zeroCells z.cells (sLen+k+w.tape w.drawn (.appendCap (sLen+k) sCap e) % (2 ^ 63-(sLen+k))-(sLen+k)),?_,oM,?_⟩
 ·have hng:¬(sLen+k≤sCap):=by omega
  simp[Builtin.append_,run_underlying hT.ht,run_underlying hu,sizeOf,typeInfo,hT.hi,hx,hng,hmx,hT.hn,Question.forced,Question.cut,h1,h2,zeroValue,hT.hz,hbig]
  rw[if_neg (by simp only[JG]at hmax;omega)]
  simp[newRow]
  all_goals rfl
 ·simp only[Array.size_append,hos,hns,size_zeroCells,hT.hzl,←Nat.add_mul]
  congr 1
  omega
theorem OV{c:CV}{v:Value}(h:V ν c v){Jf:Nat}{q:Nat×List CV}(he:elems H Jf c=some q):(Builtin.lenOf v).run P w=.ok q.1 w:=by
 unfold elems at he
 split at he
 ·simp only[Gx]at he;subst he
  simp only[V]at h;subst h;simp[Builtin.lenOf]
 ·simp only[V]at h
  obtain⟨m,c',off,hb,_,rfl,_⟩:=h
  split at he
  ·rename_i h0;simp only[Gx]at he;subst he;subst h0;simp[Builtin.lenOf]
  ·rw[GR]at he
   obtain⟨cs,_,rfl⟩:=he
   simp[Builtin.lenOf]
 ·cases he
theorem Ay(hS:JZ K B ν H w){c:CV}{v:Value}(h:V ν c v){Jf:Nat}{q:Nat×List CV}(he:elems H Jf c=some q):
  ∃new:Array Value,VL ν q.2 new.toList∧new.size=q.1*Jf∧∀w',w'.heap=w.heap→(Builtin.firstCells Jf q.1 v).run P w'=.ok new w':=by
 unfold elems at he
 split at he
 ·simp only[Gx]at he;subst he
  simp only[V]at h;subst h
  exact⟨#[],by simp[VL],sM,fun w' _=>run_firstCells_none w' _ _ _ _⟩
 ·simp only[V]at h
  obtain⟨m,c',off,hb,_,rfl,hl,_,ho,_⟩:=h
  split at he
  ·rename_i h0;simp only[Gx]at he;subst he;subst h0
   refine⟨#[],by simp[VL],sM,fun w' _=>?_⟩
   exact run_firstCells_some w' Jf 0 _ _ _ [] sM sM
  ·rename_i h0
   rw[GR]at he
   obtain⟨cs,hcs,rfl⟩:=he
   obtain⟨hlen,vs,hvs,hcell⟩:=hS.Km hcs hb
   have hoff:=ho.resolve_left oM
   refine⟨vs.toArray,by simpa using hvs,by simp[hvs.length,hlen],fun w' hw'=>?_⟩
   refine run_firstCells_some w' Jf _ _ _ _ vs (by rw[hvs.length,hlen]) fun j u hu=>?_
   rw[Addr.add_lit,hoff]
   have:=hcell j u hu
   simp only[World.cell?]at this⊢
   rw[hw']
   exact this
 ·cases he
theorem Dp(hS:JZ K B ν H w){t u ty e:TypeId}{n:Nat}{i:TypeInfo}{z:Value}(hT:GcP P t u n e i z){s x:CV}{sv xv:Value}(hs:V ν s sv)(hx:V ν x xv){q:Nat×List CV}(he:elems H n x=some q)
  {m:Option JI×(Nat→CV)}(h:NH H n s q.1 q.2=some m):Vh P (do pure (.value (←Builtin.append_ #[t,u] ty #[sv,xv]))) w m ν:=by
 have hlen:=OV (P:=P) (w:=w) hx he
 obtain⟨new,Si,hns,hnew⟩:=Ay (P:=P) hS hx he
 obtain⟨e',hu⟩:=hT.hu
 have stay:∀(base:Option Addr)(l c:Nat),q.1=0→sv=.slice base l c→l≤c→(Builtin.append_ #[t,u] ty #[sv,xv]).run P w=.ok sv w:=by
  intro base l c h0 hsv hlc
  have hn0:=hnew w rfl
  rw[h0]at hn0
  have hnz:new=#[]:=by rw[h0]at hns;simp at hns;exact hns
  rw[hnz]at hn0
  cases base<;>simp[Builtin.append_,run_underlying hT.ht,run_underlying hu,sizeOf,typeInfo,hT.hi,hlen,h0,hsv,hlc,hT.hn,hn0,storeCells]
 unfold NH at h
 split at h
 ·simp only[V]at hs
  split at h
  ·rename_i h0
   simp only[Gx]at h;subst h
   refine Vh.stay (v':=sv) ?_ (fun _=>by simp only[V];exact hs)
   simp[stay none 0 0 h0 hs (Nat.le_refl 0)]
  ·rename_i h0
   split at h
   ·rename_i hmax
    simp only[Gx]at h;subst h
    subst hs
    obtain⟨cap',rest,hr,hge,hsz⟩:=Zv (P:=P) (w:=w) (ty:=ty) (base:=none) (sLen:=0) (sCap:=0) (old:=#[]) hT hlen oM oM (fun w' _=>run_firstCells_none w' _ _ _ _) hnew sM hns
    refine⟨_,_,EI hr,⟨rfl,rfl,rfl⟩,.cells _ e,rfl,.inl ⟨rfl,rfl,rfl,_,e,rfl,rfl,?_,fun j c hj=>?_⟩,fun ρ k hρ hk=>?_⟩
    ·dsimp only
     rw[hsz]
     have:=Si.length
     simp at this
     rw[←this,hns]
     exact Nat.mul_le_mul_right _ oM
    ·obtain⟨v,hv,hV⟩:=Si.get hj
     refine⟨v,?_,hV⟩
     have hjl:j<new.size:=by have:=(Ni.1 hv).1;simpa using this
     simp only[Array.empty_append]
     rw[Array.getElem?_append_left hjl]
     simpa using hv
    ·simp only[V]
     refine⟨_,cap',0,hk,rfl,sM,oM,by simp;omega,.inr sM,?_⟩
     dsimp only[Ku]
     rw[hsz]
     omega
   ·cases h
 ·rename_i b o len cap ez tail
  simp only[V]at hs
  obtain⟨mm,cap',off,hb,hez,hsv,hl,htail,hoff,hfit⟩:=hs
  split at h
  ·rename_i h0
   simp only[Gx]at h;subst h
   refine Vh.stay (v':=sv) ?_ (fun _=>by simp only[V];exact⟨mm,cap',off,hb,hez,hsv,hl,htail,hoff,hfit⟩)
   simp[stay _ _ _ h0 hsv hl]
  ·rename_i h0
   split at h
   ·rename_i hc
    obtain⟨rfl,hcl,hmax⟩:=hc
    simp only[Bool.false_eq_true,if_false]at htail
    subst htail
    rw[GR]at h
    obtain⟨Gk7,hold,rfl⟩:=h
    have:∃old:Array Value,VL ν Gk7 old.toList∧old.size=len*n∧∀w',w'.heap=w.heap→(Builtin.firstCells n len sv).run P w'=.ok old w':=by
     have he':elems H n (.slice b o len cap' ez false)=some (len,Gk7):=by
      unfold elems
      dsimp only
      split at hold
      ·rename_i h00
       simp only[Gx]at hold;subst hold;subst h00
       rfl
      ·rename_i h00
       rw[if_neg h00,hold];rfl
     exact Ay (P:=P) hS (by simp only[V];exact⟨mm,cap',off,hb,hez,hsv,hl,sM,hoff,hfit⟩) he'
    obtain⟨old,hov,hos,SY⟩:=this
    rw[hsv]at SY⊢
    obtain⟨cap2,rest,hr,hge,hsz⟩:=Zv (P:=P) (w:=w) (ty:=ty) hT hlen hcl hmax SY hnew hos hns
    refine⟨_,_,EI hr,⟨rfl,rfl,rfl⟩,.cells _ e,rfl,.inl ⟨rfl,rfl,rfl,_,e,rfl,rfl,?_,fun j c hj=>?_⟩,fun ρ k hρ hk=>?_⟩
    ·dsimp only
     rw[hsz,Nq,←hov.length,←Si.length]
     simp only[Array.length_toList,hos,hns,←Nat.add_mul]
     exact Nat.mul_le_mul_right _ hge
    ·obtain⟨v,hv,hV⟩:=(hov.append Si).get hj
     refine⟨v,?_,hV⟩
     have hjl:j<(old++new).size:=by have:=(Ni.1 hv).1;simpa using this
     rw[Array.getElem?_append_left hjl,←EM,Array.toList_append]
     exact hv
    ·simp only[V]
     refine⟨_,cap2,0,hk,rfl,sM,hge,by simp;exact hge,.inr sM,?_⟩
     dsimp only[Ku]
     rw[hsz]
     omega
   ·cases h
 ·cases h
end
end Go.Cs
namespace Go.Cs
open Go Go.RowKit
section
variable {P : Program} {ν : Mu} {E : Env} {a : Act} {w : World} {H : Gb} {K : Nat → Option Obj} {B : Bs}
theorem Vd{t:TypeId}{q:IntKind×CV}(h:ET P t=some q):∃k e i v,P.underlying t=some (.map k e)∧P.underlying k=some (.int q.1)∧P.info? e=some i∧i.zero=some v∧Yf v=some q.2:=by
 unfold ET at h
 split at h
 ·rename_i k e hu
  split at h
  ·rename_i kd v hk hz
   rw[GR]at h
   obtain⟨z,hz',rfl⟩:=h
   rw[Jt]at hz
   obtain⟨i,hi,hv⟩:=hz
   exact⟨k,e,i,v,hu,hk,hi,hv,hz'⟩
  ·cases h
 ·cases h
theorem JY.length:∀{cs:List CV}{es:List MapEntry},JY ν cs es→es.length=cs.length
 |[],es,e=>by simp only[JY]at e;subst e;rfl
 |c::cs,es,e=>by
  obtain⟨k,n,v,x,rest,rfl,rfl,h3,h4,h5,h6⟩:=e
  simp[JY.length h6]
theorem Am{kd:IntKind}{n:Int}:∀{cs:List CV}{es:List MapEntry}{i:Nat}{r:Option (Nat×CV)},JY ν cs es→Uu kd n cs i=some r→
  match r with
  |none=>Instr.findNow (.int kd) (.int kd n) es i=some none
  |some (j,v)=>∃u,Instr.findNow (.int kd) (.int kd n) es i=some (some (j,u))∧V ν v u∧i≤j∧∃x,es[j-i]?=some x∧x.key=.int kd n
 |[],es,i,r,hr,h=>by
  simp only[JY]at hr
  subst hr
  simp only[Uu,Gx]at h
  subst h
  rfl
 |c::cs,es,i,r,hr,h=>by
  obtain⟨k,m,v,x,rest,rfl,rfl,h3,h4,h5,h6⟩:=hr
  simp only[Uu]at h
  split at h
  ·rename_i hk
   subst hk
   split at h
   ·rename_i he
    simp only[Gx]at h
    subst h
    have hnm:n=m:=by simpa using he
    refine⟨x.val,?_,h4,Nat.le_refl _,x,sM,by rw[h3,hnm]⟩
    simp[Instr.findNow,h3,Instr.sameNow,he]
   ·rename_i he
    have he':(n==m)=false:=by simpa using he
    have ih:=Am h6 h
    have step:Instr.findNow (.int kd) (.int kd n) (x::rest) i=Instr.findNow (.int kd) (.int kd n) rest (i+1):=by
     simp[Instr.findNow,h3,Instr.sameNow,he']
    cases r with
    |none=>simp only at ih⊢;rw[step,ih]
    |some p=>
     obtain⟨j,v'⟩:=p
     simp only at ih⊢
     obtain⟨u,e1,e2,e3,y,e4,e5⟩:=ih
     refine⟨u,by rw[step,e1],e2,oM,y,?_,e5⟩
     rw[show j-i=(j-(i+1))+1 from by omega]
     simpa using e4
  ·cases h
theorem IV{kd:IntKind}{n:Int}:∀{cs:List CV}{es:List MapEntry}{i:Nat},JY ν cs es→Uu kd n cs i=some none→∀x∈es,x.key≠.int kd n
 |[],es,i,hr,h=>by simp only[JY]at hr;subst hr;simp
 |c::cs,es,i,hr,h=>by
  obtain⟨k,m,v,x,rest,rfl,rfl,h3,h4,h5,h6⟩:=hr
  simp only[Uu]at h
  split at h
  ·rename_i hk
   split at h
   ·cases h
   ·rename_i he
    intro y hy
    rcases List.mem_cons.1 hy with rfl|hy
    ·rw[h3]
     intro e
     simp only[Value.int.injEq]at e
     exact he (by simp[e.2])
    ·exact IV h6 h y hy
  ·cases h
theorem Vv(hS:JZ K B ν H w){c:CV}{v:Value}(h:V ν c v){es:List CV}(he:entriesOf H c=some es):
  (v=.map none∧es=[])∨∃b m k xs cl,c=.GU b∧ν b=some m∧H[b]?=some k∧(k.mode=.map∧k.Jf=0)∧Qy k.cells=es∧v=.map (some m.c)∧w.heap[m.c]?=some (.map xs cl)∧JY ν es xs.toList∧MapKept.Stamped xs cl:=by
 unfold entriesOf at he
 split at he
 ·simp only[V]at h
  simp only[Gx]at he
  exact .inl ⟨h,he.symm⟩
 ·rename_i b
  simp only[V]at h
  obtain⟨m,hm,rfl⟩:=h
  split at he
  ·rename_i k hk
   split at he
   ·rename_i hd
    simp only[Gx]at he
    obtain⟨ob,hw,Vj,_⟩:=hS.mp b k m hk hd.1 hm
    obtain⟨xs,cl,rfl,hr,hst,-⟩:=Vj.map hd.2
    exact .inr ⟨b,m,k,xs,cl,rfl,hm,hk,hd,he,rfl,hw,by rw[←he];exact hr,hst⟩
   ·cases he
  ·cases he
 ·cases he
theorem XV(hS:JZ K B ν H w){c:CV}{v:Value}(h:V ν c v){es:List CV}(he:entriesOf H c=some es){t k e ty:TypeId}(hu:P.underlying t=some (.map k e)):
  (Builtin.len_ #[t] ty #[v]).run P w=.ok (.int .i64 es.length) w:=by
 rcases Vv hS h he with⟨rfl,rfl⟩|⟨b,m,q,xs,cl,rfl,hm,hq,hd,hes,rfl,hw,hr,-⟩
 ·simp[Builtin.len_,run_underlying hu,goInt]
 ·have hl:xs.size=es.length:=by simpa using hr.length
  simp[Builtin.len_,run_underlying hu,MapKept.run_getObj_map hw,goInt,hl]
theorem Ga3(hS:JZ K B ν H w){c x:CV}{v u:Value}(h:V ν c v)(hx:V ν x u){t:TypeId}{q:IntKind×CV}(hq:ET P t=some q){ok:Bool}{r:CV}(hr:Q5 H ok q.1 q.2 c x=some r):
  ∃v',(Instr.lookup t v u ok).run P w=.ok v' w∧V ν r v':=by
 obtain⟨kt,e,i,z,hu,hk,hi,hz,hzl⟩:=Vd hq
 unfold Q5 at hr
 split at hr
 ·rename_i k' n
  split at hr
  ·rename_i hkk
   subst hkk
   rw[Jt]at hr
   obtain⟨es,hes,hr⟩:=hr
   rw[GR]at hr
   obtain⟨f,hf,hr⟩:=hr
   simp only[V]at hx
   subst hx
   have ck:∀b,(Instr.checkKey b 10000 kt (.int q.1 n)).run P w=.ok () w:=fun b=>MapKept.run_checkKey hk (by simp[MapKept.IsKey]) b 9999
   have main:∀xs:Array MapEntry,JY ν es xs.toList→(∀s:Array MapEntry→Sem Value,True)→
     ∃v',(do
      Instr.checkKey xs.isEmpty 10000 kt (.int q.1 n)
      let (v,ok')←match←Instr.findKey kt (.int q.1 n) xs.toList with
       |some (_,v)=>pure (v,true)
       |none=>pure (←zeroValue e,false)
      pure (if ok then .tuple #[v,.bool ok']else v):Sem Value).run P w=.ok v' w∧V ν r v':=by
    intro xs hR _
    have hfr:=Am hR hf
    cases f with
    |none=>
     simp only at hfr hr
     have hfk:=MapKept.run_findKey (w:=w) hk hfr
     have hzV:V ν q.2 z:=MB hzl
     cases ok with
     |true=>
      simp only[if_true]at hr
      subst hr
      exact⟨.tuple #[z,.bool false],by simp[ck,hfk,Kj hi hz],by simp[V,VL,hzV]⟩
     |false=>
      simp only[Bool.false_eq_true,if_false]at hr
      subst hr
      exact⟨z,by simp[ck,hfk,Kj hi hz],hzV⟩
    |some p=>
     obtain⟨j,vv⟩:=p
     simp only at hfr hr
     obtain⟨uu,hfr,hV,_⟩:=hfr
     have hfk:=MapKept.run_findKey (w:=w) hk hfr
     cases ok with
     |true=>
      simp only[if_true]at hr
      subst hr
      exact⟨.tuple #[uu,.bool true],by simp[ck,hfk],by simp[V,VL,hV]⟩
     |false=>
      simp only[Bool.false_eq_true,if_false]at hr
      subst hr
      exact⟨uu,by simp[ck,hfk],hV⟩
   rcases Vv hS h hes with⟨rfl,rfl⟩|⟨b,m,kk,xs,cl,rfl,hm,hq',hd,hes',rfl,hw,hR,-⟩
   ·obtain⟨v',h1,h2⟩:=main #[] rfl (fun _=>trivial)
    refine⟨v',?_,h2⟩
    simp only[Instr.lookup,Sem.run_bind,run_underlying hu,Result.andThen_ok,Sem.run_pure]at h1⊢
    exact h1
   ·obtain⟨v',h1,h2⟩:=main xs hR (fun _=>trivial)
    refine⟨v',?_,h2⟩
    simp only[Instr.lookup,Sem.run_bind,run_underlying hu,Result.andThen_ok,Sem.run_pure,MapKept.run_getObj_map hw]at h1⊢
    exact h1
  ·cases hr
 ·cases hr
theorem JY.modify{k:IntKind}{n:Int}{y:CV}{f:MapEntry→MapEntry}(hf:∀e,(f e).key=.int k n∧V ν y (f e).val)(hy:Cs.leaf y=true):
  ∀{cs:List CV}{es:List MapEntry}{i:Nat},JY ν cs es→i<cs.length→JY ν (cs.set i (.Ju [.int k n,y])) (es.modify i f)
 |[],_,_,_,h=>by simp at h
 |c::cs,es,i,hr,h=>by
  obtain⟨k',m,v,x,rest,rfl,rfl,h3,h4,h5,h6⟩:=hr
  cases i with
  |zero=>exact⟨k,n,y,f x,rest,rfl,sM,(hf x).1,(hf x).2,hy,h6⟩
  |succ i=>exact⟨k',m,v,x,rest.modify i f,rfl,sM,h3,h4,h5,JY.modify hf hy h6 (by simpa using h)⟩
theorem JY.push{k:IntKind}{n:Int}{y:CV}{e:MapEntry}(hk:e.key=.int k n)(hv:V ν y e.val)(hy:Cs.leaf y=true):
  ∀{cs:List CV}{es:List MapEntry},JY ν cs es→JY ν (cs++[.Ju [.int k n,y]]) (es++[e])
 |[],es,hr=>by simp only[JY]at hr;subst hr;exact⟨k,n,y,e,[],rfl,rfl,hk,hv,hy,rfl⟩
 |c::cs,es,hr=>by
  obtain⟨k',m,v,x,rest,rfl,rfl,h3,h4,h5,h6⟩:=hr
  exact⟨k',m,v,x,rest++[e],rfl,rfl,h3,h4,h5,JY.push hk hv hy h6⟩
theorem JY.erase:∀{cs:List CV}{es:List MapEntry}(i:Nat),JY ν cs es→JY ν (cs.eraseIdx i) (es.eraseIdx i)
 |[],es,i,hr=>by simp only[JY]at hr;subst hr;simp[JY]
 |c::cs,es,i,hr=>by
  obtain⟨k',m,v,x,rest,rfl,rfl,h3,h4,h5,h6⟩:=hr
  cases i with
  |zero=>simpa using h6
  |succ i=>exact⟨k',m,v,x,rest.eraseIdx i,rfl,sM,h3,h4,h5,JY.erase i h6⟩
theorem ND(hS:JZ K B ν H w){b:Nat}{m:Zz}{k:JI}(hm:ν b=some m)(hb:H[b]?=some k) (hk:k.mode=.map∧k.Jf=0) {cs:List CV} {es:Array MapEntry} {cl:Nat} (hr:JY ν cs es.toList) (hst:MapKept.Stamped es cl) {H':Gb} (h:J2 H b cs=some H'):
  JZ K B ν H' {w with heap:=w.heap.setIfInBounds m.c (.map es cl)}:=by
 unfold J2 at h
 rw[hb]at h
 simp only at h
 split at h
 case isFalse=>cases h
 rw[Gx]at h
 subst h
 exact hS.setObj hb hk.1 hm (k2:={k with cells:=cs}) hk.1 (.inl ⟨hk.2,es,cl,rfl,by rw[(U7 hr).1];exact hr,hst,fun e=>by rw[(U7 hr).2]at e;cases e⟩)
theorem XI(hS:JZ K B ν H w){c x y:CV}{v u uy:Value}(h:V ν c v)(hx:V ν x u)(hy:V ν y uy){t:TypeId}{q:IntKind×CV}(hq:ET P t=some q){H':Gb}(hr:Q6 H q.1 c x y=some H'):
  ∃w',(Instr.mapUpdate t v u uy).run P w=.ok () w'∧JZ K B ν H' w':=by
 obtain⟨kt,e,i,z,hu,hk,hi,hz,hzl⟩:=Vd hq
 unfold Q6 at hr
 split at hr
 ·rename_i b k' n
  split at hr
  ·rename_i hc
   obtain⟨rfl,P9⟩:=hc
   simp only[Jt]at hr
   obtain⟨es,hes,f,hf,hr⟩:=hr
   simp only[V]at hx
   subst hx
   rcases Vv hS h hes with⟨rfl,rfl⟩|⟨b',m,kk,xs,cl,hbb,hm,hb',hd,hes',rfl,hw,hR,hst⟩
   ·simp only[V]at h
    obtain⟨_,_,h⟩:=h
    cases h
   simp only[CV.GU.injEq]at hbb
   subst hbb
   have ck:∀b,(Instr.checkKey b 10000 kt (.int q.1 n)).run P w=.ok () w:=fun b=>MapKept.run_checkKey hk (by simp[MapKept.IsKey]) b 9999
   have hfr:=Am hR hf
   cases f with
   |none=>
    simp only at hfr hr
    have hfk:=MapKept.run_findKey (w:=w) hk hfr
    refine⟨_,?_,ND hS hm hb' hd (es:=xs.push {key:=.int q.1 n,val:=uy,born:=cl}) (cl:=cl+1) (by simpa using hR.push (e:={key:=.int q.1 n,val:=uy,born:=cl}) rfl hy P9) (MapKept.stamped_push hst (IV hR hf)) hr⟩
    simp[Instr.mapUpdate,run_underlying hu,MapKept.run_getObj_map hw,ck,hfk,MapKept.run_setObj_map _ hw]
   |some p=>
    obtain⟨j,vv⟩:=p
    simp only at hfr hr
    obtain⟨uu,hfr,hV,_,x0,hx0,hxk⟩:=hfr
    have hfk:=MapKept.run_findKey (w:=w) hk hfr
    have hx1:xs[j]?=some x0:=by simpa using hx0
    have hjl:j<es.length:=by
     have:=hR.length
     have:=(Ni.1 hx0).1
     omega
    have hkt:(Instr.keyThatStays (.int q.1 n) (.int q.1 n)).run P w=.ok (.int q.1 n) w:=MapKept.run_keyThatStays (d:=.int q.1) (by simp[MapKept.IsKey])
    refine⟨_,?_,ND hS hm hb' hd (es:=xs.modify j fun e=>{e with key:=.int q.1 n,val:=uy}) (cl:=cl) (by simpa using hR.modify (f:=fun e=>{e with key:=.int q.1 n,val:=uy}) (fun e=>⟨rfl,hy⟩) P9 hjl) (MapKept.stamped_modify hst _ _ (fun _ _=>rfl) (fun e _ he=>by rw[hx1]at he;simp only[Gx]at he;subst he;exact hxk.symm)) hr⟩
    simp[Instr.mapUpdate,run_underlying hu,MapKept.run_getObj_map hw,ck,hfk,hx1,hxk,hkt,MapKept.run_setObj_map _ hw]
  ·cases hr
 ·cases hr
theorem Xv(hS:JZ K B ν H w){c x:CV}{v u:Value}(h:V ν c v)(hx:V ν x u){t ty t2:TypeId}{q:IntKind×CV}(hq:ET P t=some q){H':Gb}(hr:Qf H q.1 c x=some H'){ts:Array TypeId}(hts:ts[0]?=some t):
  ∃w',(Builtin.delete_ ts ty #[v,u]).run P w=.ok (.tuple #[]) w'∧JZ K B ν H' w':=by
 obtain⟨kt,e,i,z,hu,hk,hi,hz,hzl⟩:=Vd hq
 unfold Qf at hr
 split at hr
 ·rename_i b k' n
  split at hr
  ·rename_i hc
   subst hc
   simp only[Jt]at hr
   obtain⟨es,hes,f,hf,hr⟩:=hr
   simp only[V]at hx
   subst hx
   rcases Vv hS h hes with⟨rfl,rfl⟩|⟨b',m,kk,xs,cl,hbb,hm,hb',hd,hes',rfl,hw,hR,hst⟩
   ·simp only[V]at h
    obtain⟨_,_,h⟩:=h
    cases h
   simp only[CV.GU.injEq]at hbb
   subst hbb
   have ck:∀b,(Instr.checkKey b 10000 kt (.int q.1 n)).run P w=.ok () w:=fun b=>MapKept.run_checkKey hk (by simp[MapKept.IsKey]) b 9999
   have hfr:=Am hR hf
   cases f with
   |none=>
    simp only at hfr hr
    have hfk:=MapKept.run_findKey (w:=w) hk hfr
    refine⟨_,?_,ND hS hm hb' hd (es:=xs) (cl:=cl) hR hst hr⟩
    simp[Builtin.delete_,hts,run_underlying hu,MapKept.run_getObj_map hw,ck,hfk,MapKept.run_setObj_map _ hw]
   |some p=>
    obtain⟨j,vv⟩:=p
    simp only at hfr hr
    obtain⟨uu,hfr,hV,_,x0,hx0,hxk⟩:=hfr
    have hfk:=MapKept.run_findKey (w:=w) hk hfr
    refine⟨_,?_,ND hS hm hb' hd (es:=xs.eraseIdxIfInBounds j) (cl:=cl) (by
     have:=hR.erase j
     rw[Array.toList_eraseIdxIfInBounds]
     exact this) (MapKept.stamped_erase hst _) hr⟩
    simp[Builtin.delete_,hts,run_underlying hu,MapKept.run_getObj_map hw,ck,hfk,MapKept.run_setObj_map _ hw]
  ·cases hr
 ·rename_i k' n
  split at hr
  ·rename_i hc
   subst hc
   simp only[Gx]at hr
   subst hr
   simp only[V]at h hx
   subst h;subst hx
   have ck:∀b,(Instr.checkKey b 10000 kt (.int q.1 n)).run P w=.ok () w:=fun b=>MapKept.run_checkKey hk (by simp[MapKept.IsKey]) b 9999
   exact⟨w,by simp[Builtin.delete_,hts,run_underlying hu,ck],hS⟩
  ·cases hr
 ·cases hr
theorem R5(hS:JZ K B ν H w){b:Nat}{v:Value}(h:V ν (.GU b) v){t ty:TypeId}{q:IntKind×CV}(hq:ET P t=some q){H':Gb}(hr:J2 H b []=some H'){ts:Array TypeId}(hts:ts[0]?=some t):
  ∃w',(Builtin.clear_ ts ty #[v]).run P w=.ok (.tuple #[]) w'∧JZ K B ν H' w':=by
 obtain⟨kt,e,i,z,hu,hk,hi,hz,hzl⟩:=Vd hq
 simp only[V]at h
 obtain⟨m,hm,rfl⟩:=h
 have hr':=hr
 unfold J2 at hr'
 split at hr'
 ·rename_i k hb
  split at hr'
  ·rename_i hd
   obtain⟨ob,hw,Vj,_⟩:=hS.mp b k m hb hd.1 hm
   obtain⟨xs,cl,rfl,hR,-⟩:=Vj.map hd.2.1
   refine⟨_,?_,ND hS hm hb ⟨hd.1,hd.2.1⟩ (es:=#[]) (cl:=cl) (show JY ν [] []from rfl) (MapKept.stamped_empty cl) hr⟩
   simp[Builtin.clear_,hts,run_underlying hu,MapKept.run_getObj_map hw,MapKept.run_setObj_map _ hw]
  ·cases hr'
 ·cases hr'
end
end Go.Cs
namespace Go.Cs
open Go Go.RowKit
section
variable {P : Program} {ν : Mu} {E : Env} {a : Act} {w : World} {H : Gb} {K : Nat → Option Obj} {B : Bs}
theorem Jb{o:Oper}{s:Sem Value}(h:execOp a.eval o=(do pure (.value (←s)))){v:Value}{w':World}(hr:s.run P w=.ok v w'):(execOp a.eval o).run P w=.ok (.value v) w':=by
 rw[h];exact EI hr
theorem YW{zs:List CV}{vs:List Value}(h:VL ν zs vs)(k:Nat):VL ν (List.replicate k zs).flatten (List.replicate k vs).flatten:=by
 induction k with
 |zero=>simp[VL]
 |succ k ih=>simp only[List.replicate_succ,List.flatten_cons];exact h.append ih
theorem EJ(z:Array Value)(k:Nat):((Array.range (k*z.size)).map (z[· % z.size]!)).toList=(List.replicate k z.toList).flatten:=by
 induction k with
 |zero=>simp
 |succ k ih=>
  rw[List.replicate_succ',List.flatten_append,←ih]
  simp only[Array.toList_map,Array.toList_range,List.flatten_cons,List.flatten_nil,List.append_nil]
  rw[Nat.succ_mul,List.range_add,XE,List.map_map]
  congr 1
  apply List.ext_getElem?
  intro i
  rw[Ke]
  rcases QU i z.size with hi|hi
  ·rw[ZG hi]
   simp only[Option.map_some,Function.comp,Nat.mul_add_mod_self_right,Nat.mod_eq_of_lt hi]
   rw[EM,O1 hi,getElem!_pos z i hi]
  ·rw[En (by simpa using hi),En (by simpa using hi)];rfl
theorem YZ(d:Nat){t e:TypeId}(p:Option Addr)(h:P.underlying t=some (.pointer e)):(Op.equalIn (d+1) t (.pointer none) (.pointer p)).run P w=.ok p.isNone w:=by
 simp[Op.equalIn,run_underlying h]
theorem HV(d:Nat){t e:TypeId}(p:Addr)(h:P.underlying t=some (.pointer e)):(Op.equalIn (d+1) t (.pointer (some p)) (.pointer none)).run P w=.ok false w:=by
 simp[Op.equalIn,run_underlying h]
theorem V4(d:Nat){t e:TypeId}(p:Option Addr)(l c:Nat)(h:P.underlying t=some (.slice e)):(Op.equalIn (d+1) t (.slice none 0 0) (.slice p l c)).run P w=.ok p.isNone w:=by
 simp[Op.equalIn,run_underlying h]
theorem D5(d:Nat){t e:TypeId}(p:Addr)(l c:Nat)(h:P.underlying t=some (.slice e)):(Op.equalIn (d+1) t (.slice (some p) l c) (.slice none 0 0)).run P w=.ok false w:=by
 simp[Op.equalIn,run_underlying h]
theorem Qk{t:TypeId}{x y:Operand}{vx vy:Value}{r:Bool}(h1:eqGuard .eql t x y vx vy=pure ())(h2:eqGuard .neq t x y vx vy=pure ())
  (h3:binOp .eql t vx vy=(do pure (.bool (←Op.equal t vx vy))))(h4:binOp .neq t vx vy=(do pure (.bool (!(←Op.equal t vx vy)))))(h:(Op.equalIn 10000 t vx vy).run P w=.ok r w):
  (do eqGuard .eql t x y vx vy;binOp .eql t vx vy:Sem Value).run P w=.ok (.bool r) w∧(do eqGuard .neq t x y vx vy;binOp .neq t vx vy:Sem Value).run P w=.ok (.bool (!r)) w:=by
 rw[h1,h2,h3,h4]
 simp[Op.equal,Op.maxDepth,h]
theorem GhA{t:TypeId}{x y:Operand}{c d:CV}{vx vy:Value}{r:Bool}{ty:Nat}(hx:V ν c vx)(hy:V ν d vy)(he:MG ty c d=some r)
  (ht:(ty=0→P.underlying t=some .bool)∧(ty=1→∃e,P.underlying t=some (.pointer e))∧(ty=2→∃e,P.underlying t=some (.slice e))):
  (do eqGuard .eql t x y vx vy;binOp .eql t vx vy:Sem Value).run P w=.ok (.bool r) w∧(do eqGuard .neq t x y vx vy;binOp .neq t vx vy:Sem Value).run P w=.ok (.bool (!r)) w:=by
 unfold MG at he
 split at he
 ·simp only[Gx]at he;subst he
  simp only[V]at hx hy;subst hx;subst hy
  exact Qk (eqGuard_at_bool ..) (eqGuard_at_bool ..) rfl rfl (run_equalIn_bool w 9999 t _ _ (ht.1 rfl))
 ·obtain⟨e,hu⟩:=ht.2.1 rfl
  simp only[Gx]at he;subst he
  simp only[V]at hx hy;subst hx;subst hy
  exact Qk (eqGuard_at_pointer ..) (eqGuard_at_pointer ..) rfl rfl (YZ 9999 none hu)
 ·obtain⟨e,hu⟩:=ht.2.1 rfl
  simp only[Gx]at he;subst he
  simp only[V]at hx hy;subst hx;obtain⟨m,_,rfl⟩:=hy
  exact Qk (eqGuard_at_pointer ..) (eqGuard_at_pointer ..) rfl rfl (YZ 9999 (some _) hu)
 ·obtain⟨e,hu⟩:=ht.2.1 rfl
  simp only[Gx]at he;subst he
  simp only[V]at hx hy;subst hy;obtain⟨m,_,rfl⟩:=hx
  exact Qk (eqGuard_at_pointer ..) (eqGuard_at_pointer ..) rfl rfl (HV 9999 _ hu)
 ·obtain⟨e,hu⟩:=ht.2.2 rfl
  simp only[Gx]at he;subst he
  simp only[V]at hx hy;subst hx;subst hy
  exact Qk (eqGuard_at_slice ..) (eqGuard_at_slice ..) rfl rfl (V4 9999 none 0 0 hu)
 ·obtain⟨e,hu⟩:=ht.2.2 rfl
  simp only[Gx]at he;subst he
  simp only[V]at hx hy;subst hx;obtain⟨m,c',off,_,_,rfl,_⟩:=hy
  exact Qk (eqGuard_at_slice ..) (eqGuard_at_slice ..) rfl rfl (V4 9999 (some _) _ _ hu)
 ·obtain⟨e,hu⟩:=ht.2.2 rfl
  simp only[Gx]at he;subst he
  simp only[V]at hx hy;subst hy;obtain⟨m,c',off,_,_,rfl,_⟩:=hx
  exact Qk (eqGuard_at_slice ..) (eqGuard_at_slice ..) rfl rfl (D5 9999 _ _ _ hu)
 ·cases he
theorem M7:∀(l:List Field)(pl:List (Nat×Nat)),J3 (l.map fun f=>(sizeT P f.type).map fun n=>(f.offset,n))=some pl→
  (l.mapM fun f=>Prod.mk f.offset<$>sizeOf f.type:Sem (List (Nat×Nat))).run P w=.ok pl w
 |[],pl,h=>by simp only[List.map_nil,J3,Gx]at h;subst h;simp
 |f::l,pl,h=>by
  simp only[List.map_cons]at h
  cases hn:sizeT P f.type with
  |none=>rw[hn]at h;cases h
  |some n=>
   rw[hn]at h
   simp only[Option.map_some,J3,GR]at h
   obtain⟨q,hq,rfl⟩:=h
   have ih:=M7 l q hq
   rw[List.mapM_cons]
   simp[JE hn,ih]
theorem FO:∀{qs:List (Nat×Nat×CV)}{cs zs:List CV},fill cs qs=some zs→zs.length=cs.length
 |[],cs,zs,h=>by simp only[fill,Gx]at h;subst h;rfl
 |q::qs,cs,zs,h=>by
  obtain⟨off,size,c⟩:=q
  simp only[fill]at h
  split at h
  ·rename_i hc
   rw[FO h,Ba oM]
  ·cases h
theorem PK{dst:Option Tmp}{type:TypeId}{pos:String}{after:Array Edge}{guard:Option (Nat×Bool)}{op:BinOp}{t yt:TypeId}{x y:Operand}{x' y':J7}{ty:Nat}{op':Ko}{m:Option JI×(Nat→CV)}
  (hx:QK x=some x')(hy:QK y=some y')(hE:∀t∈op'.tmps,V ν (E t) (a.tmps.getD t undef))(hm:GL op' E H=some m)
  (hc:(match op with|.eql=>some (Ko.eqv false ty x' y')|.neq=>some (.eqv true ty x' y')|_=>none)=some op')
  (ht:(ty=0→P.underlying t=some .bool)∧(ty=1→∃e,P.underlying t=some (.pointer e))∧(ty=2→∃e,P.underlying t=some (.slice e))):
  Vh P (execOp a.eval ⟨dst,.binOp op t x y yt,type,pos,after,guard⟩) w m ν:=by
 have:∃neg,op'=.eqv neg ty x' y'∧(if neg then op=.neq else op=.eql):=by
  cases op<;>simp at hc
  ·exact⟨false,hc.symm,sM⟩
  ·exact⟨true,hc.symm,sM⟩
 obtain⟨neg,rfl,hneg⟩:=this
 have h1:=Jl hx (fun t ht=>hE t (by simp[Ko.tmps,ht]))
 have h2:=Jl hy (fun t ht=>hE t (by simp[Ko.tmps,ht]))
 simp only[GL,GR]at hm
 obtain⟨v,hv,rfl⟩:=hm
 obtain⟨g1,g2⟩:=GhA (P:=P) (w:=w) (x:=x) (y:=y) h1 h2 hv ht
 cases neg with
 |true=>
  simp only[if_true]at hneg
  subst hneg
  exact Vh.stay (v':=.bool (!v)) (Jb rfl g2) fun _=>by simp[V]
 |false=>
  simp only[Bool.false_eq_true,if_false]at hneg
  subst hneg
  exact Vh.stay (v':=.bool v) (Jb rfl g1) fun _=>by simp[V]
theorem Gb0(big:Bool):∀(l:List CV)(vs:List Value)(c:CV)(u:Value){r:CV},VL ν l vs→V ν c u→l.foldlM (mm2 big) c=some r→
  ∃v',(vs.foldlM (if big then Builtin.max2 else Builtin.min2) u:Sem Value).run P w=.ok v' w∧V ν r v'
 |[],vs,c,u,r,hl,hu,h=>by
  simp only[VL]at hl
  subst hl
  simp only[List.foldlM_nil,Option.pure_def,Gx]at h
  subst h
  exact⟨u,sM,hu⟩
 |d::l,vs,c,u,r,hl,hu,h=>by
  simp only[VL]at hl
  obtain⟨v,rest,rfl,hv,hl⟩:=hl
  simp only[List.foldlM_cons,Option.bind_eq_bind,Jt]at h
  obtain⟨q,hq,h⟩:=h
  unfold mm2 at hq
  split at hq
  ·rename_i k x k' y
   simp only[Gx]at hq
   simp only[V]at hu hv
   subst hu;subst hv
   obtain⟨v',hr,hV⟩:=Gb0 big l rest q (.int k (if big then(if y>x then y else x)else(if y<x then y else x))) hl (by rw[←hq];simp[V]) h
   refine⟨v',?_,hV⟩
   rw[List.foldlM_cons]
   cases big<;>simpa[Builtin.max2,Builtin.min2]using hr
  ·cases hq
theorem Gdy(big:Bool){l:List CV}{vs:Array Value}{r:CV}(ts:Array TypeId)(ty:TypeId)(hl:VL ν l vs.toList)(h:GgY big l=some r):
  ∃v',((if big then Builtin.max_ else Builtin.min_) ts ty vs).run P w=.ok v' w∧V ν r v':=by
 cases l with
 |nil=>cases h
 |cons c l=>
  simp only[VL]at hl
  obtain⟨v,rest,hvs,hv,hl⟩:=hl
  obtain⟨v',hr,hV⟩:=Gb0 (P:=P) (w:=w) big l rest c v hl hv h
  refine⟨v',?_,hV⟩
  cases big
  ·simpa[Builtin.min_,hvs]using hr
  ·simpa[Builtin.max_,hvs]using hr
def Z0(P:Program)(w:World):Prop:=∀g zs,ZW P g=some zs→∃T fz,w.heap[g]?=some (.cells (zs.map (Value.int .i64)).toArray T fz)
theorem GeP{P:Program}{K:Nat→Option Obj}{B:Bs}{ν:Mu}{H:Gb}{w:World}(hG:Z0 P B.toWorld)(hS:JZ K B ν H w){t:TypeId}{g:Nat}{zs:List Int}(hz:ZW P g=some zs)(ha:YC P t=some true)(hn:sizeT P t=some zs.length):
  ∃v',(loadVar t ⟨g,0,none⟩).run P w=.ok v' w∧V ν (.agg (zs.map (.int .i64))) v':=by
 obtain⟨T,fz,hc⟩:=hG g zs hz
 have hw:w.heap[g]?=some (.cells (zs.map (Value.int .i64)).toArray T fz):=by rw[hS.base.block g (N7.1 hc).1];exact hc
 have hr:=run_loadCells_list (P:=P) w ⟨g,0,none⟩ (zs.map (Value.int .i64)) (fun j v hv=>by
  rw[Addr.add_lit,Nat.zero_add];simp only[World.cell?,hw];simpa using hv)
 rw[Wu]at hr
 refine⟨.agg (zs.map (Value.int .i64)).toArray,?_,?_⟩
 ·simp only[loadVar,Sem.run_bind,BL ha,Result.andThen_ok,if_true]
  simp[JE hn,hr]
 ·simp only[V]
  refine⟨_,rfl,?_⟩
  simp only[List.toList_toArray]
  clear hr hn hc hw hz
  induction zs with
  |nil=>simp[VL]
  |cons z zs ih=>simp only[List.map_cons,VL];exact⟨_,_,rfl,by simp[V],ih⟩
theorem Geu(hG:Z0 P B.toWorld)(hS:JZ K B ν H w){o:Oper}{op':Ko}(hc:GX P o.op=some op')(hE:∀t∈op'.tmps,V ν (E t) (a.tmps.getD t undef)){m:Option JI×(Nat→CV)}(hm:GL op' E H=some m):
  Vh P (execOp a.eval o) w m ν:=by
 obtain⟨dst,oop,type,pos,after,guard⟩:=o
 dsimp only at hc
 cases oop with
 |move x|assign x=>
  simp only[GX,GR]at hc
  obtain⟨y,hy,rfl⟩:=hc
  simp only[GL,Gx]at hm
  subst hm
  exact Vh.stay (v':=a.eval x) (by simp[execOp]) fun _=>Jl hy hE
 |pick c p q=>
  simp only[GX,Jt,GR]at hc
  obtain⟨c',hc',p',hp,q',hq,rfl⟩:=hc
  have h1:=Jl hc' (fun t ht=>hE t (by simp[Ko.tmps,ht]))
  have h2:=Jl hp (fun t ht=>hE t (by simp[Ko.tmps,ht]))
  have h3:=Jl hq (fun t ht=>hE t (by simp[Ko.tmps,ht]))
  simp only[GL]at hm
  split at hm
  ·rename_i t ht
   simp only[Gx]at hm
   subst hm
   rw[ht]at h1
   simp only[V]at h1
   refine Vh.stay (v':=if t then a.eval p else a.eval q) (by simp[execOp,h1,asBool]) fun _=>?_
   cases t
   ·exact h3
   ·exact h2
  ·cases hm
 |alloc t=>
  simp only[GX,GR]at hc
  obtain⟨z,hz,rfl⟩:=hc
  obtain⟨i,v,hi,hv,hV⟩:=Us ν hz
  simp only[GL,Gx]at hm
  subst hm
  refine Vh.made (v':=.pointer (some ⟨w.heap.size,0,none⟩)) (arr:=v.cells) (T:=t) ?_ hV fun ρ k _ hk=>?_
  ·simp[execOp,Instr.alloc,Kj hi hv,newVar,newRow]
  ·simp only[V];exact⟨_,hk,rfl⟩
 |box t x=>
  simp only[GX,GR]at hc
  obtain⟨y,hy,rfl⟩:=hc
  have h1:=Jl hy hE
  simp only[GL,Gx]at hm
  subst hm
  refine Vh.made (v':=.pointer (some ⟨w.heap.size,0,none⟩)) (arr:=(a.eval x).cells) (T:=t) ?_ h1.cells fun ρ k _ hk=>?_
  ·simp[execOp,Instr.box,newVar,newRow]
  ·simp only[V];exact⟨_,hk,rfl⟩
 |build t parts=>
  simp only[GX]at hc
  split at hc
  ·rename_i fs hu
   simp only[Jt,GR]at hc
   obtain⟨z,hz,pl,hpl,ps,hps,rfl⟩:=hc
   obtain⟨i,v,hi,hv,hV⟩:=Us ν hz
   simp only[GL,GR]at hm
   obtain⟨cs,hcs,rfl⟩:=hm
   obtain⟨out,hout,hVo⟩:=ZY hps (fun t ht=>hE t (by simpa[Ko.tmps]using ht)) hV hcs
   refine Vh.stay (v':=.agg out) ?_ fun _=>by simp only[V];exact⟨_,rfl,hVo⟩
   have WT:=hout
   simp only[Array.toList_map]at WT
   simp[execOp,Instr.build,Kj hi hv,run_underlying hu,Array.mapM_eq_mapM_toList,M7 _ _ hpl,WT]
  ·rename_i l e hu
   simp only[Jt,GR]at hc
   obtain⟨z,hz,n,hn,ps,hps,rfl⟩:=hc
   obtain⟨i,v,hi,hv,hV⟩:=Us ν hz
   simp only[GL,GR]at hm
   obtain⟨cs,hcs,rfl⟩:=hm
   obtain⟨out,hout,hVo⟩:=ZY hps (fun t ht=>hE t (by simpa[Ko.tmps]using ht)) hV hcs
   refine Vh.stay (v':=.agg out) ?_ fun _=>by simp only[V];exact⟨_,rfl,hVo⟩
   have WT:=hout
   simp only[Array.toList_map]at WT
   simp[execOp,Instr.build,Kj hi hv,run_underlying hu,JE hn,WT]
  ·cases hc
 |buildSlice t len parts=>
  simp only[GX,Jt]at hc
  obtain⟨e,he,n,hn,z,hz,ps,hps,hg⟩:=hc
  obtain⟨hgd,hop⟩:=G_ hg
  simp only[Gx]at hop
  subst hop
  simp only[JQ,decide_eq_true_eq]at hgd
  obtain⟨⟨hn0,hzl⟩,hlim⟩:=hgd
  obtain⟨i,v,hi,hv,hV⟩:=Us ν hz
  have hvs:v.cells.size=n:=by have:=hV.length;simp at this;omega
  simp only[GL,GR]at hm
  obtain⟨cs,hcs,rfl⟩:=hm
  have hz0:=YW hV len
  have hzr:((Array.range (len*n)).map (v.cells[· % v.cells.size]!)).toList=(List.replicate len v.cells.toList).flatten:=by rw[←hvs];exact EJ _ _
  rw[←hzr]at hz0
  obtain⟨out,hout,hVo⟩:=ZY hps (fun t ht=>hE t (by simpa[Ko.tmps]using ht)) hz0 hcs
  have hos:out.size=len*n:=by
   have h1:=hVo.length
   have h2:=FO hcs
   rw[←Array.length_toList,h1,h2,List.length_flatten]
   simp[hzl]
  refine Vh.made (v':=.slice (some ⟨w.heap.size,0,none⟩) len len) (arr:=out) (T:=e) ?_ hVo fun ρ k _ hk=>?_
  ·have hlt:¬(len*n>2 ^ 24):=by omega
   refine Jb (s:=Instr.buildSlice t len (parts.map fun x=>(x.1,a.eval x.2))) rfl ?_
   simp only[Instr.buildSlice,Sem.run_bind,run_underlying (Jz he),Result.andThen_ok,JE hn,if_neg hlt,Sem.run_pure]
   rcases Nat.eq_zero_or_pos len with h0|h0
   ·subst h0
    simp only[Nat.zero_mul,Array.range_zero',Array.map_empty]at hout
    simp only[Nat.zero_mul,if_true,Sem.run_pure,Result.andThen_ok,Array.range_zero',Array.map_empty,hout]
    simp[newRow]
   ·have hne:¬(len*n=0):=by have:=Nat.mul_pos h0 hn0;omega
    simp only[if_neg hne,Sem.run_bind,Kj hi hv,Result.andThen_ok,Sem.run_pure,hout]
    simp[newRow]
  ·simp only[V]
   refine⟨_,len,0,hk,rfl,rfl,Nat.le_refl _,sM,.inr sM,?_⟩
   dsimp only
   omega
 |load t x=>
  cases x with
  |global g0=>
   simp only[GX,MJ,Jt]at hc
   obtain⟨zs,hz,hc⟩:=hc
   split at hc
   ·rename_i hcc
    simp only[Gx]at hc
    subst hc
    obtain⟨v',hr,hV⟩:=GeP (P:=P) hG hS hz hcc.1 hcc.2
    simp only[GL,Gx]at hm
    subst hm
    exact Vh.stay (v':=v') (by simp[execOp,Instr.loadAt,Act.eval,Instr.sureAddr,hr]) fun _=>hV
   ·cases hc
  |_=>
   simp only[GX,Jt,GR]at hc
   obtain⟨g,hg,n,hn,y,hy,rfl⟩:=hc
   have h1:=Jl hy hE
   simp only[GL]at hm
   split at hm
   ·rename_i b o hb
    rw[hb]at h1
    simp only[V]at h1
    obtain⟨mm,hmm,he⟩:=h1
    have key:∃v,(if g=true then(Km H b o n).map .agg else QF H b o)=some v∧m=(none,fun _=>v):=by
     split at hm
     ·rename_i hgt
      rw[GR]at hm
      obtain⟨cs,hcs,rfl⟩:=hm
      exact⟨.agg cs,by rw[if_pos hgt,hcs];rfl,rfl⟩
     ·rename_i hgt
      rw[GR]at hm
      obtain⟨v,hv,rfl⟩:=hm
      exact⟨v,by rw[if_neg hgt,hv],rfl⟩
    obtain⟨v,hv,rfl⟩:=key
    obtain⟨v',hr,hV⟩:=IG (P:=P) hS hg hn hv hmm
    exact Vh.stay (v':=v') (by simp[execOp,Instr.loadAt,he,Instr.sureAddr,hr]) fun _=>hV
   ·cases hm
 |nilCheck x=>
  simp only[GX,GR]at hc
  obtain⟨y,hy,rfl⟩:=hc
  have h1:=Jl hy hE
  simp only[GL]at hm
  split at hm
  ·rename_i b o hb
   simp only[Gx]at hm
   subst hm
   rw[hb]at h1
   have h2:=h1
   simp only[V]at h2
   obtain⟨mm,hmm,he⟩:=h2
   exact Vh.stay (v':=a.eval x) (by simp[execOp,he]) fun _=>h1
  ·rename_i t c hb
   simp only[Gx]at hm
   subst hm
   rw[hb]at h1
   have h2:=h1
   simp only[V]at h2
   obtain⟨u,he,_⟩:=h2
   exact Vh.stay (v':=a.eval x) (by simp[execOp,he]) fun _=>h1
  ·cases hm
 |binOp op t x y yt=>
  simp only[GX,Jt]at hc
  obtain⟨x',hx,y',hy,hc⟩:=hc
  split at hc
  ·have hop:op'=.bin op x' y'∨op'=.shift op x' y':=by cases op<;>simp at hc<;>first|exact .inl hc.symm|exact .inr hc.symm
   rcases hop with hop|hop
   case inr=>
    subst hop
    have h1:=Jl hx (fun t ht=>hE t (by simp[Ko.tmps,ht]))
    have h2:=Jl hy (fun t ht=>hE t (by simp[Ko.tmps,ht]))
    simp only[GL]at hm
    split at hm
    ·rename_i k p k' q e1 e2
     rw[GR]at hm
     obtain⟨v,hv,rfl⟩:=hm
     rw[e1]at h1
     rw[e2]at h2
     simp only[V]at h1 h2
     obtain⟨v',hr,hV⟩:=Gcr (P:=P) (w:=w) (ν:=ν) (t:=t) h1 h2 hv
     exact Vh.stay (v':=v') (Jb rfl hr) fun _=>hV
    ·cases hm
   subst hop
   have h1:=Jl hx (fun t ht=>hE t (by simp[Ko.tmps,ht]))
   have h2:=Jl hy (fun t ht=>hE t (by simp[Ko.tmps,ht]))
   simp only[GL]at hm
   split at hm
   ·rename_i k p k' q e1 e2
    split at hm
    ·rename_i hk
     subst hk
     rw[GR]at hm
     obtain⟨v,hv,rfl⟩:=hm
     rw[e1]at h1
     rw[e2]at h2
     simp only[V]at h1 h2
     obtain⟨v',hr,hV⟩:=GgB (P:=P) (w:=w) (ν:=ν) (t:=t) h1 h2 hv
     exact Vh.stay (v':=v') (Jb rfl hr) fun _=>hV
    ·cases hm
   ·cases hm
  ·rename_i hu
   exact PK hx hy hE hm hc ⟨fun _=>hu,sM,sM⟩
  ·rename_i e hu
   exact PK hx hy hE hm hc ⟨sM,fun _=>⟨e,hu⟩,sM⟩
  ·rename_i e hu
   exact PK hx hy hE hm hc ⟨sM,sM,fun _=>⟨e,hu⟩⟩
  ·rename_i l e hu
   obtain⟨hgd,hop⟩:=G_ hc
   simp only[JQ,beq_iff_eq,Bool.not_eq_true']at hgd
   obtain⟨⟨⟨hb,hs⟩,ha⟩,hgt⟩:=hgd
   have:∃neg,op'=.eqb neg l x' y'∧(if neg then op=.neq else op=.eql):=by
    cases op<;>simp at hop
    ·exact⟨false,hop.symm,sM⟩
    ·exact⟨true,hop.symm,sM⟩
   obtain⟨neg,rfl,hneg⟩:=this
   have h1:=Jl hx (fun t ht=>hE t (by simp[Ko.tmps,ht]))
   have h2:=Jl hy (fun t ht=>hE t (by simp[Ko.tmps,ht]))
   simp only[GL]at hm
   split at hm
   ·rename_i xs ys e1 e2
    split at hm
    ·rename_i hl
     rw[GR]at hm
     obtain⟨v,hv,rfl⟩:=hm
     rw[e1]at h1
     rw[e2]at h2
     obtain⟨g1,g2,g3,g4⟩:=Ghv (P:=P) (w:=w) (x:=x) (y:=y) hu hb hs hgt h1 h2 hv hl
     cases neg with
     |true=>
      simp only[if_true]at hneg
      subst hneg
      exact Vh.stay (v':=.bool (!v)) (Jb rfl (by simp[g2,g4])) fun _=>by simp[V]
     |false=>
      simp only[Bool.false_eq_true,if_false]at hneg
      subst hneg
      exact Vh.stay (v':=.bool v) (Jb rfl (by simp[g1,g3])) fun _=>by simp[V]
    ·cases hm
   ·cases hm
  ·rename_i fs hu
   obtain⟨hgd,hop⟩:=G_ hc
   have:∃neg,op'=.eqs neg fs.size x' y'∧(if neg then op=.neq else op=.eql):=by
    cases op<;>simp at hop
    ·exact⟨false,hop.symm,sM⟩
    ·exact⟨true,hop.symm,sM⟩
   obtain⟨neg,rfl,hneg⟩:=this
   have h1:=Jl hx (fun t ht=>hE t (by simp[Ko.tmps,ht]))
   have h2:=Jl hy (fun t ht=>hE t (by simp[Ko.tmps,ht]))
   simp only[GL]at hm
   split at hm
   ·rename_i xs ys e1 e2
    split at hm
    ·rename_i hl
     rw[GR]at hm
     obtain⟨v,hv,rfl⟩:=hm
     rw[e1]at h1
     rw[e2]at h2
     obtain⟨g1,g2,g3,g4⟩:=R8 (P:=P) (w:=w) (x:=x) (y:=y) hgd h1 h2 hv ⟨fs,hu,hl⟩
     cases neg with
     |true=>
      simp only[if_true]at hneg
      subst hneg
      exact Vh.stay (v':=.bool (!v)) (Jb rfl (by simp[g2,g4])) fun _=>by simp[V]
     |false=>
      simp only[Bool.false_eq_true,if_false]at hneg
      subst hneg
      exact Vh.stay (v':=.bool v) (Jb rfl (by simp[g1,g3])) fun _=>by simp[V]
    ·cases hm
   ·cases hm
  ·cases hc
 |unOp op t x=>
  cases op with
  |not=>
   simp only[GX,GR]at hc
   obtain⟨y,hy,rfl⟩:=hc
   have h1:=Jl hy hE
   simp only[GL]at hm
   split at hm
   ·rename_i b hb
    simp only[Gx]at hm
    subst hm
    rw[hb]at h1
    simp only[V]at h1
    exact Vh.stay (v':=.bool !b) (by simp[execOp,h1,Op.unary]) fun _=>by simp[V]
   ·cases hm
  |_=>cases hc
 |makeInterface t x=>
  simp only[GX]at hc
  split at hc
  ·rename_i fs hu
   rw[GR]at hc
   obtain⟨y,hy,rfl⟩:=hc
   have h1:=Jl hy hE
   simp only[GL,Gx]at hm
   subst hm
   exact Vh.stay (v':=.iface t (a.eval x)) (Jb rfl (by simp[Instr.makeInterface,run_underlying hu])) fun _=>by simp only[V];exact⟨_,rfl,h1⟩
  ·cases hc
 |makeFunc fn first caps=>
  cases fn with
  |method name=>
   simp only[GX]at hc
   split at hc
   ·rename_i x hf
    split at hc
    ·rename_i hcp
     rw[GR]at hc
     obtain⟨y,hy,rfl⟩:=hc
     have h1:=Jl hy hE
     have hf':first=#[x]:=by rw[←Array.toArray_toList (xs:=first),hf]
     have hc':caps=#[]:=by simpa using hcp
     simp only[GL,Gx]at hm
     subst hm
     exact Vh.stay (v':=.func (.method name) #[a.eval x] #[]) (Jb rfl (by simp[Instr.makeFunc,hf',hc'])) fun _=>by simp only[V];exact⟨_,rfl,h1⟩
    ·cases hc
   ·cases hc
  |func f=>
   simp only[GX]at hc
   split at hc
   ·rename_i hf
    rw[GR]at hc
    obtain⟨l,hl,rfl⟩:=hc
    have h1:=Ui hl (fun t ht=>hE t (by simpa[Ko.tmps]using ht))
    simp only[GL,Gx]at hm
    subst hm
    have hf':first=#[]:=by simpa using hf
    refine Vh.stay (v':=.func (.func f) #[] (caps.map a.eval)) (by simp[execOp,Instr.makeFunc,hf']) fun _=>?_
    simp only[V]
    exact⟨_,rfl,h1⟩
   ·cases hc
  |_=>cases hc
 |makeSlice t l c=>
  simp only[GX,Jt]at hc
  obtain⟨e,he,n,hn,b,hb,z,hz,l',hl,c',hcc,hg⟩:=hc
  obtain⟨hgd,hop⟩:=G_ hg
  simp only[Gx]at hop
  subst hop
  simp only[JQ,decide_eq_true_eq]at hgd
  obtain⟨⟨hn0,hzl⟩,hb4⟩:=hgd
  obtain⟨i,v,hi,hv,hV⟩:=Us ν hz
  have hvs:v.cells.size=n:=by have:=hV.length;simp at this;omega
  have hby:i.bytes=b:=by simp only[Mg,hi,Option.map_some,Gx]at hb;exact hb
  have h1:=Jl hl (fun t ht=>hE t (by simp[Ko.tmps,ht]))
  have h2:=Jl hcc (fun t ht=>hE t (by simp[Ko.tmps,ht]))
  simp only[GL]at hm
  split at hm
  ·rename_i l0 c0 e1 e2
   split at hm
   ·rename_i hlc
    simp only[Gx]at hm
    subst hm
    rw[e1]at h1
    rw[e2]at h2
    simp only[V]at h1 h2
    obtain⟨cn,rfl⟩:=Int.eq_ofNat_of_zero_le (show 0≤c0 by omega)
    obtain⟨ln,rfl⟩:=Int.eq_ofNat_of_zero_le hlc.1
    simp only[JG]at hlc
    have w1:IntKind.i64.wrap (ln:Int)=ln:=wrap_small oM oM
    have w2:IntKind.i64.wrap (cn:Int)=cn:=wrap_small oM oM
    have hbig:¬((2:Int) ^ 48<(b:Int)*(cn:Int)):=by
     have hle:b*cn≤4096*16777216:=Nat.mul_le_mul hb4 oM
     have hle':((b*cn:Nat):Int)≤68719476736:=by omega
     rw[Int.natCast_mul]at hle'
     omega
    have hz0:=YW hV cn
    rw[←EJ,hvs]at hz0
    simp only[K6]
    refine Vh.made (v':=.slice (some ⟨w.heap.size,0,none⟩) ln cn) (arr:=(Array.range (cn*n)).map (v.cells[· % n]!)) (T:=e) ?_ hz0 fun ρ k _ hk=>?_
    ·refine Jb (s:=Instr.makeSlice t (a.eval l) (a.eval c)) rfl ?_
     rw[h1,h2]
     have hcl:¬((cn:Int)<0):=by omega
     have hll:¬((ln:Int)<0):=by omega
     have Gl1:¬((cn:Int)<(ln:Int)):=by omega
     rcases Nat.eq_zero_or_pos cn with h0|h0
     ·subst h0
      have hl0:ln=0:=by omega
      subst hl0
      simp only[Instr.makeSlice,run_underlying (Jz he),asInt,asIntOf,Y7 hi,hby,JE hn,Sem.run_bind,Result.andThen_ok,Sem.run_pure]
      simp[newRow,IntKind.wrap,IntKind.bits,JE hn,Array.range_zero']
     ·have hne:¬(cn*n=0):=by have:=Nat.mul_pos h0 hn0;omega
      have hbig':decide ((b:Int)*(cn:Int)>2 ^ 48)=false:=by simpa using hbig
      have hcl':decide ((cn:Int)<0)=false:=by simp
      have GqN:decide ((ln:Int)<0)=false:=by simp
      have GoP:decide ((ln:Int)>(cn:Int))=false:=by simpa using Gl1
      simp only[Instr.makeSlice,run_underlying (Jz he),asInt,asIntOf,Y7 hi,hby,JE hn,Sem.run_bind,Result.andThen_ok,Sem.run_pure,w1,w2,hbig',hcl',GqN,GoP,Bool.or_false,Bool.false_eq_true,if_false,K6,if_neg hne,Kj hi hv,run_askRoom,hvs]
      simp[newRow]
    ·simp only[V]
     refine⟨_,cn,0,hk,rfl,rfl,oM,sM,.inr sM,?_⟩
     simp
   ·cases hm
  ·cases hm
 |slice t x lo hi mx=>
  simp only[GX,Jt,GR]at hc
  obtain⟨e,he,n,hn,x',hx,lo',hlo,hi',hhi,mx',hmx,rfl⟩:=hc
  simp only[GL,GR]at hm
  obtain⟨v,hv,rfl⟩:=hm
  obtain⟨v',hr,hV⟩:=GbI (P:=P) (w:=w) (Jz he) hn hx hlo hhi hmx hE hv
  exact Vh.stay (v':=v') (by simp[execOp,hr]) fun _=>hV
 |fieldAddr s x f=>
  simp only[GX]at hc
  split at hc
  ·rename_i fs hu
   simp only[Jt]at hc
   obtain⟨fd,hfd,n,hn,x',hx,hg⟩:=hc
   obtain⟨hgd,hop⟩:=G_ hg
   simp only[Gx]at hop
   subst hop
   simp only[decide_eq_true_eq,ne_eq]at hgd
   have h1:=Jl hx hE
   simp only[GL]at hm
   split at hm
   ·rename_i b o hb
    simp only[Gx]at hm
    subst hm
    rw[hb]at h1
    simp only[V]at h1
    obtain⟨mm,hmm,he⟩:=h1
    refine Vh.stay (v':=.pointer (some ⟨mm.c,mm.s+(o+fd.offset),none⟩)) ?_ fun _=>by simp only[V];exact⟨mm,hmm,rfl⟩
    simp[execOp,Instr.fieldAt,run_underlying hu,hfd,he,Instr.sureAddr,fieldPlace,JE hn,hgd,Addr.add_lit,Nat.add_assoc]
   ·cases hm
  ·cases hc
 |convert s d x=>
  simp only[GX]at hc
  split at hc
  ·rename_i ks kd hus hud
   simp only[GR]at hc
   obtain⟨y,hy,rfl⟩:=hc
   have h1:=Jl hy hE
   simp only[GL]at hm
   split at hm
   ·rename_i k n hb
    simp only[Gx]at hm
    subst hm
    rw[hb]at h1
    simp only[V]at h1
    exact Vh.stay (v':=.int kd (kd.wrap n)) (Jb (s:=convert s d (a.eval x)) rfl (by simp[convert,run_underlying hus,run_underlying hud,h1,Conv.intToInt])) fun _=>by simp[V]
   ·cases hm
  ·cases hc
 |indexAddr t x ix=>
  simp only[GX]at hc
  split at hc
  case h_1 l e hu=>
   simp only[Jt,GR]at hc
   obtain⟨n,hn,x',hx,i',hi,rfl⟩:=hc
   have h1:=Jl hx (fun t ht=>hE t (by simp[Ko.tmps,ht]))
   have h2:=Jl hi (fun t ht=>hE t (by simp[Ko.tmps,ht]))
   simp only[GL]at hm
   split at hm
   ·rename_i b o k i hb hik
    split at hm
    ·rename_i hlt
     simp only[Gx]at hm
     subst hm
     rw[hb]at h1
     rw[hik]at h2
     simp only[V]at h1 h2
     obtain⟨mm,hmm,hxe⟩:=h1
     refine Vh.stay (v':=.pointer (some ⟨mm.c,mm.s+(o+i.toNat*n),none⟩)) ?_ fun _=>by simp only[V];exact⟨mm,hmm,rfl⟩
     simp[execOp,Instr.indexAt,run_underlying hu,h2,hxe,asIntOf,Instr.sureAddr,hlt,JE hn,Addr.add_lit,Nat.add_assoc]
    ·cases hm
   ·cases hm
  case h_3=>cases hc
  rename_i e he0
  have he:Kt P t=some e:=by simp[Kt,he0]
  simp only[Jt,GR]at hc
  obtain⟨n,hn,x',hx,i',hi,rfl⟩:=hc
  have h1:=Jl hx (fun t ht=>hE t (by simp[Ko.tmps,ht]))
  have h2:=Jl hi (fun t ht=>hE t (by simp[Ko.tmps,ht]))
  simp only[GL]at hm
  split at hm
  ·rename_i b o len cap ez tl k i hb hik
   split at hm
   ·rename_i hlt
    simp only[Gx]at hm
    subst hm
    rw[hb]at h1
    rw[hik]at h2
    simp only[V]at h1 h2
    obtain⟨mm,cap',off,hmm,hez,hxe,hlc,ht,hoff,hfit⟩:=h1
    have Zb:=hoff.resolve_left oM
    refine Vh.stay (v':=.pointer (some ⟨mm.c,mm.s+(o+i.toNat*n),none⟩)) ?_ fun _=>by simp only[V];exact⟨mm,hmm,rfl⟩
    simp[execOp,Instr.indexAt,run_underlying (Jz he),h2,hxe,asIntOf,hlt,JE hn,Addr.add_lit,Zb,Nat.add_assoc]
   ·cases hm
  ·cases hm
 |index t x i=>
  cases x with
  |const v=>
   cases v with
   |string s=>
    simp only[GX]at hc
    split at hc
    ·rename_i hu
     rw[GR]at hc
     obtain⟨i',hi',rfl⟩:=hc
     have h1:=Jl hi' (fun t ht=>hE t (by simpa[Ko.tmps]using ht))
     simp only[GL]at hm
     split at hm
     ·rename_i k z hz
      rw[hz]at h1
      simp only[V]at h1
      split at hm
      ·rename_i h0
       rw[GR]at hm
       obtain⟨v,hv,rfl⟩:=hm
       rw[Ke,GR]at hv
       obtain⟨c,hc',rfl⟩:=hv
       have hg:s[z.toNat]?=some c:=by
        rw[EM,N7]at hc'
        obtain⟨hlt,rfl⟩:=hc'
        exact getElem?_pos s z.toNat hlt
       exact Vh.stay (v':=.int .u8 c.toNat) (by
        have hev:a.eval (.const (.string s))=.string s:=rfl
        simp[execOp,hev,Instr.index,run_underlying hu,h1,asIntOf,h0,hg]) fun _=>by simp[V]
      ·cases hm
     ·cases hm
    ·cases hc
   |_=>cases hc
  |tmp x=>
   simp only[GX]at hc
   split at hc
   ·rename_i l e hu
    obtain⟨hgd,hop⟩:=G_ hc
    simp only[JQ,beq_iff_eq]at hgd
    obtain⟨hs,ha⟩:=hgd
    rw[Jt]at hop
    obtain⟨x',hx',hop⟩:=hop
    rw[GR]at hop
    obtain⟨i',hi',rfl⟩:=hop
    have h1:=Jl hx' (fun t ht=>hE t (by simp[Ko.tmps,ht]))
    have h2:=Jl hi' (fun t ht=>hE t (by simp[Ko.tmps,ht]))
    simp only[GL]at hm
    split at hm
    ·rename_i cs k z e1 e2
     split at hm
     ·rename_i h0
      rw[GR]at hm
      obtain⟨c,hc',rfl⟩:=hm
      rw[e1]at h1
      rw[e2]at h2
      simp only[V]at h1 h2
      obtain⟨xs,hxe,hxs⟩:=h1
      obtain⟨v',hv1,hv2⟩:=VL.get hxs hc'
      have hg:xs[z.toNat]?=some v':=by simpa using hv1
      have hna:(isAgg e).run P w=.ok false w:=BL ha
      exact Vh.stay (v':=v') (by
       simp[execOp,hxe,h2,Instr.index,run_underlying hu,asIntOf,h0.1,h0.2,JE hs,Go.part,hna,hg]) fun _=>hv2
     ·cases hm
    ·cases hm
   ·cases hc
  |_=>cases hc
 |makeMap t r=>
  cases r with
  |none=>
   simp only[GX,GR]at hc
   obtain⟨_,_,rfl⟩:=hc
   simp only[GL,Gx]at hm
   subst hm
   refine⟨.map (some w.heap.size),w.alloc (.map #[] 0),by simp[execOp,Instr.makeMap],⟨rfl,rfl,rfl⟩,.map #[] 0,rfl,.inr ⟨rfl,rfl,#[],0,rfl,rfl,MapKept.stamped_empty 0⟩,fun ρ k _ hk=>?_⟩
   simp only[V];exact⟨_,hk,rfl⟩
  |some r=>cases hc
 |mapUpdate t p x v=>
  simp only[GX,Jt,GR]at hc
  obtain⟨_,_,_,_,_,_,_,_,rfl⟩:=hc
  cases hm
 |lookup t p x ok=>
  simp only[GX,Jt,GR]at hc
  obtain⟨q,hq,p',hp,x',hx,rfl⟩:=hc
  have h1:=Jl hp (fun t ht=>hE t (by simp[Ko.tmps,ht]))
  have h2:=Jl hx (fun t ht=>hE t (by simp[Ko.tmps,ht]))
  simp only[GL,GR]at hm
  obtain⟨v,hv,rfl⟩:=hm
  obtain⟨v',hr,hV⟩:=Ga3 (P:=P) hS h1 h2 hq hv
  exact Vh.stay (v':=v') (Jb rfl hr) fun _=>hV
 |extract x ix=>
  simp only[GX,GR]at hc
  obtain⟨y,hy,rfl⟩:=hc
  have h1:=Jl hy hE
  simp only[GL]at hm
  split at hm
  ·rename_i vs hvs
   rw[GR]at hm
   obtain⟨v,hv,rfl⟩:=hm
   rw[hvs]at h1
   simp only[V]at h1
   obtain⟨us,hus,hl⟩:=h1
   obtain⟨u,hu,hV⟩:=hl.get hv
   have hu':us[ix]?=some u:=by simpa using hu
   exact Vh.stay (v':=u) (by simp[execOp,hus,Instr.extract,hu']) fun _=>hV
  ·cases hm
 |call c=>
  obtain⟨callee,args,argTypes⟩:=c
  simp only[GX,I8]at hc
  split at hc
  ·rw[Jt]at hc
   obtain⟨l,hl,hc⟩:=hc
   obtain⟨_,hc⟩:=G_ hc
   simp only[Gx]at hc
   subst hc
   cases hm
  ·simp only[GR]at hc
   obtain⟨l,hl,hop⟩:=hc
   split at hop<;>(subst hop;cases hm)
  ·simp only[Jt,GR]at hc
   obtain⟨_,_,_,_,rfl⟩:=hc
   cases hm
  ·split at hc
   ·simp only[Jt,GR]at hc
    obtain⟨_,_,_,_,_,_,rfl⟩:=hc
    cases hm
   ·cases hc
  ·split at hc
   ·rename_i x t hxs ht
    have ha:args=#[x]:=by rw[←Array.toArray_toList (xs:=args),hxs]
    subst ha
    split at hc
    ·rename_i q hq
     simp only[GR]at hc
     obtain⟨y,hy,rfl⟩:=hc
     have h1:=Jl hy hE
     simp only[GL,GR]at hm
     obtain⟨es,hes,rfl⟩:=hm
     obtain⟨k,e,_,_,hu,_⟩:=Vd hq
     have hat:argTypes[0]?=some t:=ht
     refine Vh.stay (v':=.int .i64 es.length) ?_ fun _=>by simp[V]
     refine Jb (s:=Builtin.len_ argTypes type #[a.eval x]) (by simp[execOp,resolve,invoke,builtin]) ?_
     have:=XV (P:=P) hS h1 hes (ty:=type) hu
     simpa[Builtin.len_,hat]using this
    simp only[Jt,GR]at hc
    obtain⟨e,he,y,hy,rfl⟩:=hc
    have h1:=Jl hy hE
    simp only[GL]at hm
    split at hm
    ·rename_i b o len cap ez tl hb
     simp only[Gx]at hm
     subst hm
     rw[hb]at h1
     simp only[V]at h1
     obtain⟨mm,cap',off,hmm,hez,hxe,_⟩:=h1
     refine Vh.stay (v':=.int .i64 len) ?_ fun _=>by simp[V]
     simp[execOp,resolve,invoke,builtin,Builtin.len_,ht,run_underlying (Jz he),hxe,goInt]
    ·rename_i hb
     simp only[Gx]at hm
     subst hm
     rw[hb]at h1
     simp only[V]at h1
     refine Vh.stay (v':=.int .i64 0) ?_ fun _=>by simp[V]
     simp[execOp,resolve,invoke,builtin,Builtin.len_,ht,run_underlying (Jz he),h1,goInt]
    ·cases hm
   ·cases hc
  ·split at hc
   ·split at hc
    ·simp only[GR]at hc
     obtain⟨l,hl,rfl⟩:=hc
     simp only[GL,GR]at hm
     obtain⟨v,hv,rfl⟩:=hm
     obtain⟨v',hr,hV⟩:=Gdy (P:=P) (w:=w) true argTypes type (Ui hl (fun t ht=>hE t (by simpa[Ko.tmps]using ht))) hv
     exact Vh.stay (v':=v') (Jb (s:=Builtin.max_ argTypes type (args.map a.eval)) (by simp[execOp,resolve,invoke,builtin]) (by simpa using hr)) fun _=>hV
    ·cases hc
   ·cases hc
  ·split at hc
   ·split at hc
    ·simp only[GR]at hc
     obtain⟨l,hl,rfl⟩:=hc
     simp only[GL,GR]at hm
     obtain⟨v,hv,rfl⟩:=hm
     obtain⟨v',hr,hV⟩:=Gdy (P:=P) (w:=w) false argTypes type (Ui hl (fun t ht=>hE t (by simpa[Ko.tmps]using ht))) hv
     exact Vh.stay (v':=v') (Jb (s:=Builtin.min_ argTypes type (args.map a.eval)) (by simp[execOp,resolve,invoke,builtin]) (by simpa using hr)) fun _=>hV
    ·cases hc
   ·cases hc
  ·split at hc
   ·rename_i s x t u hxs hts
    simp only[Jt]at hc
    obtain⟨e,he,e',he',n,hn,b,hb,z,hz,s',hs,x',hx,hg⟩:=hc
    obtain⟨hgd,hop⟩:=G_ hg
    simp only[Gx]at hop
    subst hop
    simp only[JQ,decide_eq_true_eq]at hgd
    obtain⟨⟨⟨hn0,hb0⟩,hb4⟩,hzl⟩:=hgd
    obtain⟨i,v,hi,hv,hV⟩:=Us ν hz
    have ha:args=#[s,x]:=by rw[←Array.toArray_toList (xs:=args),hxs]
    have hat:argTypes=#[t,u]:=by rw[←Array.toArray_toList (xs:=argTypes),hts]
    subst ha;subst hat
    have h1:=Jl hs (fun t ht=>hE t (by simp[Ko.tmps,ht]))
    have h2:=Jl hx (fun t ht=>hE t (by simp[Ko.tmps,ht]))
    simp only[GL,Jt]at hm
    obtain⟨q,hq,hm⟩:=hm
    have hT:GcP P t u n e i v:=by
     refine⟨Jz he,⟨e',Jz he'⟩,hi,hv,?_,?_,?_,hn0⟩
     ·obtain⟨i',hi',rfl⟩:=Yx hn
      rw[hi]at hi';simp only[Gx]at hi';subst hi';rfl
     ·have:=hV.length;simp at this;omega
     ·simp only[Mg,hi,Option.map_some,Gx]at hb;omega
    have:=Dp (P:=P) (ty:=type) hS hT h1 h2 hq hm
    simpa[execOp,resolve,invoke,builtin]using this
   ·cases hc
  ·split at hc
   ·simp only[Jt,GR]at hc
    obtain⟨_,_,_,_,_,_,_,_,_,_,rfl⟩:=hc
    cases hm
   ·cases hc
  ·split at hc
   ·split at hc
    ·simp only[GR]at hc
     obtain⟨_,_,rfl⟩:=hc
     cases hm
    simp only[Jt,GR]at hc
    obtain⟨_,_,_,_,_,_,rfl⟩:=hc
    cases hm
   ·cases hc
  ·cases hc
 |store t x v=>
  simp only[GX,Jt,GR]at hc
  obtain⟨_,_,_,_,_,_,rfl⟩:=hc
  cases hm
 |_=>simp only[GX]at hc;cases hc
end
end Go.Cs
namespace Go.Cs
open Go Go.RowKit
structure St(K:Nat→Option Obj)(B:Bs)(L:Nat)(ν:Mu)(H:Gb)(w:World):Prop where
 Nh:JZ K B ν H w
 dom:∀b,H.length≤b→b<L→ν b=none
structure Ext(L:Nat)(H:Gb)(ν:Mu)(H':Gb)(ν':Mu):Prop where
 len:H.length≤H'.length
 same:∀b,b<H.length→ν' b=ν b
 far:∀b,L≤b→ν' b=ν b
theorem Ext.refl(L:Nat)(H:Gb)(ν:Mu):Ext L H ν H ν:=⟨Nat.le_refl _,fun _ _=>rfl,fun _ _=>rfl⟩
theorem Ext.trans{L:Nat}{H H1 H2:Gb}{ν ν1 ν2:Mu}(h:Ext L H ν H1 ν1)(k:Ext L H1 ν1 H2 ν2):Ext L H ν H2 ν2:=
 ⟨Jr h.len k.len,fun b hb=>(k.same b (JH hb h.len)).trans (h.same b hb),fun b hb=>(k.far b hb).trans (h.far b hb)⟩
theorem Ext.mono{K:Nat→Option Obj}{B:Bs}{L:Nat}{H H':Gb}{ν ν':Mu}{w:World}(h:Ext L H ν H' ν')(hS:St K B L ν H w):∀b m,ν b=some m→ν' b=some m:=by
 intro b m hm
 rcases QU b H.length with hb|hb
 ·rw[h.same b hb];exact hm
 ·rcases QU b L with hl|hl
  ·rw[hS.dom b hb hl]at hm;cases hm
  ·rw[h.far b hl];exact hm
def Fr(rd:Option Nat):Fence:={Fence.wide with round:=rd}
theorem M5{rd:Option Nat}{p:Prop}(h:(Fr rd).depth.isSome=true):p:=by
 have:(none:Option Nat).isSome=true:=h
 cases this
def TA(P:Program)(z N _fn:Nat)(ps:Array Tmp)(a c:Code):Prop:=z % 2=0∧(∀t∈ps.toList,t<N)∧∃f0 f,V5 P z=some (f0,f,ps,a,c)∧f.ntmps=N
structure Sj(P:Program)(B:Bs):Prop where
 rnd:B.rnd=TA P
 glob:Z0 P B.toWorld
def XC(v:CV)(x:Exit):Prop:=(v=.i 0∧x=.normal)∨(v=.i 1∧x=.ret)∨∃id:Nat,v=.i (id+2)∧x=.exit id
def Ei(P:Program)(F:Jp):Prop:=∀f args H r,F f args H=some r→H.length≤r.2.length∧
 (f<RB→(∃fn,P.funcs[f]?=some fn∧fn.name≠ "runtime.NumGoroutine" ∧fn.body.isSome=true)∧
  ∀K B L ν w (args':Array Value),Sj P B→r.2.length≤L→St K B L ν H w→VL ν args args'.toList→
   Calls P f args' w fun e w'=>∃v' ν',e=.returned v'∧St K B L ν' r.2 w'∧V ν' r.1 v'∧Ext L H ν r.2 ν')∧
 (∀z N fn ps a c,TA P z N fn ps a c→
  (f=RB+z→∃env,r.1=.Ju env∧env.length=N∧∀K B L ν w tmps l dp,Sj P B→r.2.length≤L→St K B L ν H w→(∀t,V ν (args.getD t .undef) (tmps.getD t undef))→N≤tmps.size→
   a.wpIn (Fr (some l)) dp P (fun x a1 w1=>∃ν',x=.normal∧a1.defers=[]∧N≤a1.tmps.size∧(∀t,V ν' (env.getD t .undef) (a1.tmps.getD t undef))∧St K B L ν' r.2 w1∧Ext L H ν r.2 ν') {tmps,defers:=[]} w)∧
  (f=RB+z+1→∀K B L ν w tmps l dp,Sj P B→r.2.length≤L→St K B L ν H w→(∀t,V ν (args.getD t .undef) (tmps.getD t undef))→N≤tmps.size→
   c.wpIn (Fr (some l)) dp P (fun x a1 w1=>∃ν',XC r.1 x∧St K B L ν' r.2 w1∧Ext L H ν r.2 ν') {tmps,defers:=[]} w))
theorem U8{P:Program}{o:Oper}{op:Ko}(h:GX P o.op=some op):∀c,o.op≠.defer c:=by
 intro c e
 rw[e]at h
 cases h
section
variable {P : Program} {F : Jp} {ν : Mu} {E : Env} {a : Act} {w : World} {H : Gb} {K : Nat → Option Obj} {B : Bs} {L : Nat} {rd : Option Nat} {dp : Nat}
theorem JZ.free(h:JZ K B ν H w):K w.heap.size=none:=by
 cases hk:K w.heap.size with
 |none=>rfl
 |some o=>have:=(N7.1 (h.kept _ _ hk)).1;omega
theorem St.push(h:St K B L ν H w)(hL:H.length<L){w':World}{arr:Array Value}{T:TypeId}(hh:w'.heap=w.heap.push (.cells arr T))(hs:Streams w w'){k:JI}(hk:k.mode=.rw)(hl:k.cells.length≤arr.size)
  (hv:∀(i:Nat)(x:CV),k.cells[i]?=some x→∃v,arr[i]?=some v∧V ν x v):
  St K B L (ν.set H.length ⟨w.heap.size,0,k.Jf,arr.size⟩) (H++[k]) w'∧Ext L H ν (H++[k]) (ν.set H.length ⟨w.heap.size,0,k.Jf,arr.size⟩):=by
 have hmono:∀b m,ν b=some m→(ν.set H.length ⟨w.heap.size,0,k.Jf,arr.size⟩) b=some m:=by
  intro b m hm
  have hb:b≠H.length:=fun e=>by rw[e,h.dom _ (Nat.le_refl _) hL]at hm;cases hm
  rw[Mu.J4 _ _ hb];exact hm
 have h1:=(h.Nh.alloc (.cells arr T)).same (w':=w') hh hs.os hs.tape hs.output
 have h2:=h1.congr (ν:=ν.set H.length ⟨w.heap.size,0,k.Jf,arr.size⟩) (fun b hb=>Mu.J4 _ _ oM) hmono
 have h3:=h2.adopt (c:=w.heap.size) (arr:=arr) (T:=T) (s:=0) sM h.Nh.base.size hk (by simpa using hl) (Mu.set_self _ _ _)
  (fun i x hx=>by obtain⟨v,hv',hV⟩:=hv i x hx;exact⟨v,by simpa using hv',V.mono hmono _ _ hV⟩)
 have hK:(fun d=>if d=w.heap.size then none else if d=w.heap.size then some (Obj.cells arr T)else K d)=K:=by
  funext d
  by_cases hd:d=w.heap.size
  ·rw[if_pos hd,hd];exact h.Nh.free.symm
  ·rw[if_neg hd,if_neg hd]
 rw[hK]at h3
 exact⟨⟨h3,fun b hb hl=>by simp at hb;rw[Mu.J4 _ _ oM];exact h.dom b oM hl⟩,⟨sM,fun b hb=>Mu.J4 _ _ oM,fun b hb=>Mu.J4 _ _ oM⟩⟩
theorem St.GhS(h:St K B L ν H w)(hL:H.length<L){w':World}{x:Obj}(hh:w'.heap=w.heap.push x)(hs:Streams w w'){k:JI}(hf:Fx ν k ⟨w.heap.size,0,k.Jf,Ku x⟩ x):
  St K B L (ν.set H.length ⟨w.heap.size,0,k.Jf,Ku x⟩) (H++[k]) w'∧Ext L H ν (H++[k]) (ν.set H.length ⟨w.heap.size,0,k.Jf,Ku x⟩):=by
 rcases hf with⟨h1,h2,h3,arr,T,rfl,h5,h6,h7⟩|⟨h1,h0,es,cl,rfl,h3⟩
 ·exact h.push hL hh hs h1 h6 h7
 ·have hmono:∀b m,ν b=some m→(ν.set H.length ⟨w.heap.size,0,k.Jf,0⟩) b=some m:=by
   intro b m hm
   have hb:b≠H.length:=fun e=>by rw[e,h.dom _ (Nat.le_refl _) hL]at hm;cases hm
   rw[Mu.J4 _ _ hb];exact hm
  have g2:=h.Nh.congr (ν:=ν.set H.length ⟨w.heap.size,0,k.Jf,0⟩) (fun b hb=>Mu.J4 _ _ oM) hmono
  have g3:=g2.newObj (e:=k.Jf) (z:=0) (Mu.set_self _ _ _) h.Nh.free h1 (JY.GjC h0 ⟨h3.1.mono hmono,h3.2⟩)
  have g4:=g3.same (w':=w') hh hs.os hs.tape hs.output
  exact⟨⟨g4,fun b hb hl=>by simp at hb;rw[Mu.J4 _ _ oM];exact h.dom b oM hl⟩,⟨sM,fun b hb=>Mu.J4 _ _ oM,fun b hb=>Mu.J4 _ _ oM⟩⟩
theorem JZ.GiN(h:JZ K B ν H w){c:Nat}{arr Zg:Array Value}{T:TypeId}(hc:K c=some (.cells arr T))(hB:B.heap.size≤c):
  JZ (fun d=>if d=c then some (.cells Zg T)else K d) B ν H (w.setRow c Zg):=by
 have hw:=h.kept c _ hc
 refine⟨h.base.trans ⟨rfl,rfl,rfl,sM,fun q hq=>setRow_other w c q _ oM⟩,fun d x hx=>?_,fun b k m hb hd hd' hm=>?_,h.inj,fun b k m hb hd hm=>?_⟩
 ·split at hx
  ·rename_i e;subst e;simp only[Gx]at hx;subst hx;exact setRow_heap w d arr Zg T (0,0) hw
  ·rename_i e;rw[setRow_other w c d _ e];exact h.kept d x hx
 rotate_left
 ·obtain⟨ob,hw',hr,hB',hK'⟩:=h.mp b k m hb hd hm
  have hne:m.c≠c:=h.Y8 hc hB hb (by rw[hd];decide) hm
  exact⟨ob,by rw[setRow_other w c m.c _ hne];exact hw',hr,hB',by rw[if_neg hne];exact hK'⟩
 ·obtain⟨a,T',fz,hw',hcc,hr,hro⟩:=h.blk b k m hb hd hd' hm
  have hne:m.c≠c:=h.Y8 hc hB hb hd hm
  refine⟨a,T',fz,by rw[setRow_other w c m.c _ hne];exact hw',hcc,fun e=>?_,hro⟩
  obtain⟨c1,c2,c3,c4,c5,c6⟩:=hr e
  exact⟨c1,c2,c3,c4,c5,by rw[if_neg hne];exact c6⟩
def Next.after(rd:Option Nat)(dp:Nat)(P:Program)(o:Oper)(a:Act)(w:World)(K:Nat→Option Obj)(B:Bs)(L:Nat)(H:Gb)(ν:Mu)(r:CV×Gb):Prop:=
 ∀(next:Act→World→Prop)(Q:Exit→Act→World→Prop),(∀v' w' ν',St K B L ν' r.2 w'→V ν' r.1 v'→Ext L H ν r.2 ν'→next (a.put o.dst v') w')→o.wpIn (Fr rd) dp P a w next Q
theorem JB{o:Oper}(hnd:∀c,o.op≠.defer c){r:CV×Gb}{v':Value}{w':World}{ν':Mu}(h:(execOp a.eval o).run P w=.ok (.value v') w')(hS:St K B L ν' r.2 w')(hV:V ν' r.1 v')(hE:Ext L H ν r.2 ν'):Next.after rd dp P o a w K B L H ν r:=
 fun next Q hn=>by
  refine⟨fun _ _=>trivial,?_⟩
  rw[Oper.semAt_eq _ _ _ hnd,h]
  exact hn v' w' ν' hS hV hE
theorem Iy{o:Oper}(hnd:∀c,o.op≠.defer c){r:CV×Gb}{w':World}{ν':Mu}(h:(execOp a.eval o).run P w=.ok .skip w')(hS:St K B L ν' r.2 w')(hr:r.1=.undef)(hE:Ext L H ν r.2 ν'):Next.after rd dp P o a w K B L H ν r:=
 fun next Q hn=>by
  refine⟨fun _ _=>trivial,?_⟩
  rw[Oper.semAt_eq _ _ _ hnd,h]
  exact hn undef w' ν' hS (by rw[hr];simp only[V];exact⟨#[],rfl,by simp[VL]⟩) hE
theorem U_(hG:Z0 P B.toWorld)(hS:St K B L ν H w){o:Oper}{op:Ko}(hc:GX P o.op=some op)(hE:∀t∈op.tmps,V ν (E t) (a.tmps.getD t undef)){m:Option JI×(Nat→CV)}(hm:GL op E H=some m)(hL:(made H m).2.length≤L):
  Next.after rd dp P o a w K B L H ν (made H m):=by
 obtain⟨v',w',hr,hs,hh⟩:=Geu (P:=P) hG hS.Nh hc hE hm
 obtain⟨ob,f⟩:=m
 cases ob with
 |none=>
  obtain⟨hw,hv⟩:=hh
  exact JB (U8 hc) hr ⟨hS.Nh.same hw hs.os hs.tape hs.output,hS.dom⟩ (hv _) (Ext.refl _ _ _)
 |some k=>
  obtain⟨x,hw,hf,hp⟩:=hh
  obtain⟨h1,h2⟩:=hS.GhS (by simp[made]at hL;omega) hw hs hf
  exact JB (U8 hc) hr h1 (hp _ _ (h2.mono hS) (Mu.set_self _ _ _)) h2
theorem GcB(hS:St K B L ν H w){t:TypeId}{n b o:Nat}{x:CV}{xv:Value}(hn:sizeT P t=some n){m:Zz}(hm:ν b=some m)(hx:V ν x xv)(hl:(cellsOf x).length=n){H':Gb}(hs:Qq H b o (cellsOf x)=some H'):
  ∃w',(storeVar t ⟨m.c,m.s+o,none⟩ xv).run P w=.ok () w'∧St K B L ν H' w'∧H'.length=H.length:=by
 obtain⟨arr,T,hw,hfit,h1,hS',hlen⟩:=hS.Nh.write hs hm hx.cells
 have hsz:xv.cells.size=n:=by have:=hx.cells.length;simp at this;omega
 have hr:=run_storeCells_at P m.c (m.s+o) T xv.cells.toList 0 arr w hw (by simpa using hfit) h1
 simp only[Nat.add_zero]at hr
 refine⟨_,?_,⟨hS',fun b' hb' hl'=>hS.dom b' oM hl'⟩,hlen⟩
 simp only[storeVar,Sem.run_bind,JE hn,Result.andThen_ok,hsz,ne_eq,not_true_eq_false,if_false,hr]
theorem P_(hS:St K B L ν H w){b o:Nat}{cs:List CV}{vs:List Value}{m:Zz}(hm:ν b=some m)(hv:VL ν cs vs){H':Gb}(hs:Qq H b o cs=some H'):
  ∃w',(storeCells ⟨m.c,m.s+o,none⟩ vs).run P w=.ok () w'∧St K B L ν H' w'∧H'.length=H.length:=by
 obtain⟨arr,T,hw,hfit,h1,hS',hlen⟩:=hS.Nh.write hs hm hv
 have hr:=run_storeCells_at P m.c (m.s+o) T vs 0 arr w hw (by simpa using hfit) h1
 simp only[Nat.add_zero]at hr
 exact⟨_,hr,⟨hS',fun b' hb' hl'=>hS.dom b' oM hl'⟩,hlen⟩
theorem FD{t u ty e:TypeId}{n:Nat}{i:TypeInfo}{z:Value}(hT:GcP P t u n e i z){ad:Addr}{sLen sCap:Nat}{x:Value}{k:Nat}{new:Array Value}(hx:(Builtin.lenOf x).run P w=.ok k w)
  (hroom:sLen+k≤sCap)(hnew:(Builtin.firstCells n k x).run P w=.ok new w){w':World}(hst:(storeCells (ad.add (sLen*n)) new.toList).run P w=.ok () w'):
  (Builtin.append_ #[t,u] ty #[.slice (some ad) sLen sCap,x]).run P w=.ok (.slice (some ad) (sLen+k) sCap) w':=by
 obtain⟨e',hu⟩:=hT.hu
 simp[Builtin.append_,run_underlying hT.ht,run_underlying hu,sizeOf,typeInfo,hT.hi,hx,hT.hn,hroom,hnew,hst]
theorem XK(hS:St K B L ν H w){t u ty e:TypeId}{n:Nat}{i:TypeInfo}{z:Value}(hT:GcP P t u n e i z){s x:CV}{sv xv:Value}(hs:V ν s sv)(hx:V ν x xv){q:Nat×List CV}(he:elems H n x=some q)
  {r:CV×Gb}(h:Jv H n s q.1 q.2=some r)(hL:r.2.length≤L):∃v' w' ν',(Builtin.append_ #[t,u] ty #[sv,xv]).run P w=.ok v' w'∧St K B L ν' r.2 w'∧V ν' r.1 v'∧Ext L H ν r.2 ν':=by
 have steady:∀m,NH H n s q.1 q.2=some m→r=made H m→∃v' w' ν',(Builtin.append_ #[t,u] ty #[sv,xv]).run P w=.ok v' w'∧St K B L ν' r.2 w'∧V ν' r.1 v'∧Ext L H ν r.2 ν':=by
  intro m hm hr
  subst hr
  obtain⟨v',w',hrun,hst,hh⟩:=Dp (P:=P) (ty:=ty) hS.Nh hT hs hx he hm
  have hrun':(Builtin.append_ #[t,u] ty #[sv,xv]).run P w=.ok v' w':=by
   simp only[Sem.run_bind]at hrun
   generalize (Builtin.append_ #[t,u] ty #[sv,xv]).run P w=g at*
   cases g with
   |ok v2 w2=>simp at hrun;obtain⟨rfl,rfl⟩:=hrun;rfl
   |halt x w2=>simp at hrun
  obtain⟨ob,f⟩:=m
  cases ob with
  |none=>
   obtain⟨hw,hv⟩:=hh
   exact⟨v',w',ν,hrun',⟨hS.Nh.same hw hst.os hst.tape hst.output,hS.dom⟩,hv _,Ext.refl _ _ _⟩
  |some k=>
   obtain⟨x,hw,hf,hp⟩:=hh
   obtain⟨h1,h2⟩:=hS.GhS (by simp[made]at hL;omega) hw hst hf
   exact⟨v',w',_,hrun',h1,hp _ _ (h2.mono hS) (Mu.set_self _ _ _),h2⟩
 unfold Jv at h
 split at h
 ·split at h
  ·rename_i h0
   simp only[Gx]at h
   exact steady (none,fun _=>.Gf) (by unfold NH;simp only[if_pos h0]) h.symm
  ·rename_i h0
   split at h
   ·rename_i hmax
    simp only[Gx]at h
    exact steady (some ⟨q.2,.rw,n⟩,fun k=>.slice k 0 q.1 q.1 n true) (by unfold NH;simp only[if_neg h0,if_pos hmax]) h.symm
   ·cases h
 ·rename_i b o len cap ez tail
  split at h
  ·rename_i h0
   simp only[Gx]at h
   exact steady (none,fun _=>.slice b o len cap ez tail) (by unfold NH;simp only[if_pos h0]) h.symm
  ·rename_i h0
   have hlen:=OV (P:=P) (w:=w) hx he
   obtain⟨new,Si,hns,hnew⟩:=Ay (P:=P) hS.Nh hx he
   have hs2:=hs
   simp only[V]at hs2
   obtain⟨mm,cap',off,hb,hez,hsv,hl,htail,hoff,hfit⟩:=hs2
   have hcc:cap≤cap':=by split at htail<;>omega
   split at h
   ·
    rename_i hroom
    rw[GR]at h
    obtain⟨H',hH',rfl⟩:=h
    have Zb:=hoff.resolve_left oM
    obtain⟨w',hst,hS',hlen'⟩:=P_ (P:=P) hS hb Si hH'
    subst hsv
    refine⟨_,w',ν,FD hT hlen oM (hnew w rfl) (w':=w') (by rw[Addr.add_lit,Zb,Nat.add_assoc];exact hst),hS',?_,⟨by dsimp only;omega,fun _ _=>rfl,fun _ _=>rfl⟩⟩
    simp only[V]
    exact⟨mm,cap',off,hb,hez,rfl,oM,htail,hoff,hfit⟩
   ·rename_i hroom
    split at h
    ·rename_i hmax
     rw[Jt]at h
     obtain⟨old,hold,h⟩:=h
     cases tail with
     |false=>
      simp only[Bool.false_eq_true,if_false,Gx]at h
      exact steady (some ⟨old++q.2,.rw,n⟩,fun k=>.slice k 0 (len+q.1) (len+q.1) n true) (by unfold NH;simp only[if_neg h0];rw[if_pos ⟨trivial,oM,hmax⟩,hold];rfl) h.symm
     |true=>
      simp only[if_true]at h htail
      split at h
      ·rename_i blk hblk
       split at h
       ·rename_i hcond
        obtain⟨hrw,hee,hend,P9⟩:=hcond
        simp only[Gx]at h
        subst h
        have Tq:old.length=len*n:=by
         split at hold
         ·rename_i hl0;simp only[Gx]at hold;subst hold;subst hl0;simp
         ·exact(hS.Nh.Km hold hb).1
        have Gil:q.2.length=q.1*n:=by have:=Si.length;simp at this;omega
        by_cases hin:len+q.1≤cap'
        ·
         obtain⟨arr,T,hwm,TP,GoX,hfits,hBc,hown⟩:=hS.Nh.own hblk hrw hb
         have hKn:K mm.c=none:=by
          exact hS.Nh.loose hblk (.inl hrw) hb
         have Zb:=hoff.resolve_left oM
         rw[Zb,hez,hee]at hfit
         have h1:(len+q.1)*n≤cap'*n:=Nat.mul_le_mul_right _ hin
         rw[Nat.add_mul]at h1
         have Mi:mm.s+(o+len*n)+new.toList.length≤arr.size:=by
          rw[TP]
          simp only[Array.length_toList,hns]
          omega
         have hr:=run_storeCells_at P mm.c (mm.s+(o+len*n)) T new.toList 0 arr w hwm (by simpa using Mi) (Si.leaf P9)
         simp only[Nat.add_zero]at hr
         generalize Gd7:(arr.toList.take (mm.s+(o+len*n))++new.toList++arr.toList.drop (mm.s+(o+len*n)+new.toList.length)).toArray=Zg at hr
         have hsz2:Zg.size=arr.size:=by rw[←Gd7];simp at Mi⊢;omega
         have hmono:∀b' m',ν b'=some m'→(ν.set H.length ⟨mm.c,mm.s+o,n,Zg.size⟩) b'=some m':=by
          intro b' m' hm'
          have hb':b'≠H.length:=fun e=>by rw[e,hS.dom _ (Nat.le_refl _) (by simp at hL;omega)]at hm';cases hm'
          rw[Mu.J4 _ _ hb'];exact hm'
         have hre:=hown.GiN (c:=mm.c) (arr:=arr) (Zg:=Zg) (T:=T) sM hBc
         have GoY:=hre.congr (ν:=ν.set H.length ⟨mm.c,mm.s+o,n,Zg.size⟩) (fun b' hb'=>Mu.J4 _ _ (by simp at hb';omega)) hmono
         have had:=GoY.adopt (k:=⟨old++q.2,.rw,n⟩) (c:=mm.c) (arr:=Zg) (T:=T) (s:=mm.s+o) sM hBc rfl
          (by
            refine⟨fun e=>?_,?_⟩
            ·have:=hT.hpos;dsimp only at e;omega
            ·simp only[Nq,Tq,Gil,hsz2,TP];omega) (by simp only[List.length_set];exact Mu.set_self _ _ _) (fun i c hi=>by
           dsimp only at hi
           by_cases hlt:i<old.length
           ·rw[QN hlt]at hi
            have hl0:len≠0:=fun e=>by rw[e]at Tq;simp at Tq;rw[Tq]at hlt;simp at hlt
            rw[if_neg hl0]at hold
            obtain⟨_,vs,hvs,hcell⟩:=hS.Nh.Km hold hb
            obtain⟨v,hv,hV⟩:=hvs.get hi
            have hc2:=hcell i v hv
            simp only[World.cell?,hwm]at hc2
            refine⟨v,?_,V.mono hmono _ _ hV⟩
            have hc3:arr[mm.s+o+i]?=some v:=by simpa using hc2
            have hlt2:=(N7.1 hc3).1
            rw[←Gd7,List.getElem?_toArray,List.append_assoc,QN (by simp;omega),Ze,if_pos oM]
            simpa using hc3
           ·rw[M_ oM]at hi
            obtain⟨v,hv,hV⟩:=Si.get hi
            refine⟨v,?_,V.mono hmono _ _ hV⟩
            have hvl:=(Ni.1 hv).1
            rw[←Gd7,List.getElem?_toArray,List.append_assoc,M_ (by simp;omega),QN (by simp at Mi hvl⊢;omega),←hv]
            congr 1
            simp at Mi⊢
            omega)
         have hKK:(fun d=>if d=mm.c then none else if d=mm.c then some (Obj.cells Zg T)else if d=mm.c then some (Obj.cells arr T)else K d)=K:=by
          funext d
          by_cases hd:d=mm.c
          ·rw[if_pos hd,hd,hKn]
          ·rw[if_neg hd,if_neg hd,if_neg hd]
         rw[hKK]at had
         subst hsv
         refine⟨_,_,_,FD hT hlen hin (hnew w rfl) (by rw[Addr.add_lit,Zb,Nat.add_assoc];exact hr),⟨had,fun b' hb' hl'=>?_⟩,?_,⟨sM,fun b' hb'=>Mu.J4 _ _ oM,fun b' hb'=>Mu.J4 _ _ (by simp at hL;omega)⟩⟩
         ·simp at hb'
          rw[Mu.J4 _ _ oM]
          exact hS.dom b' oM hl'
         ·simp only[V]
          refine⟨_,cap',off,Mu.set_self _ _ _,rfl,rfl,hin,by simp;omega,.inr (by rw[Zb];simp),?_⟩
          dsimp only
          rw[hsz2,TP,Zb]
          omega
        ·
         have Gd_:St K B L ν (H.set b {blk with mode:=.dead}) w:=⟨hS.Nh.kill hblk,fun b' hb' hl'=>hS.dom b' (by simpa using hb') hl'⟩
         have:∃XU:Array Value,VL ν old XU.toList∧XU.size=len*n∧∀w',w'.heap=w.heap→(Builtin.firstCells n len sv).run P w'=.ok XU w':=by
          have he':elems H n (.slice b o len cap ez true)=some (len,old):=by
           unfold elems
           dsimp only
           split at hold
           ·rename_i h00
            simp only[Gx]at hold;subst hold;subst h00
            rfl
           ·rename_i h00
            rw[if_neg h00,hold];rfl
          exact Ay (P:=P) hS.Nh hs he'
         obtain⟨XU,hov,hos,SY⟩:=this
         rw[hsv]at SY
         subst hsv
         obtain⟨cap2,rest,hr,hge,hsz⟩:=Zv (P:=P) (w:=w) (ty:=ty) hT hlen oM hmax SY hnew hos hns
         obtain⟨h1,h2⟩:=Gd_.push (by simp at hL⊢;omega) (k:=⟨old++q.2,.rw,n⟩) (w':=w.drew.alloc (.cells (XU++new++rest) e)) (arr:=XU++new++rest) (T:=e) rfl ⟨rfl,rfl,rfl⟩ rfl
          (by
           dsimp only
           rw[hsz,Nq,Tq,Gil,←Nat.add_mul]
           exact Nat.mul_le_mul_right _ hge)
          (fun j c hj=>by
           obtain⟨v,hv,hV⟩:=(hov.append Si).get hj
           refine⟨v,?_,hV⟩
           have hjl:j<(XU++new).size:=by have:=(Ni.1 hv).1;simpa using this
           rw[Array.getElem?_append_left hjl,←EM,Array.toList_append]
           exact hv)
         refine⟨_,_,_,hr,h1,?_,⟨sM,fun b' hb'=>?_,fun b' hb'=>h2.far b' hb'⟩⟩
         ·simp only[V]
          refine⟨_,cap2,0,by rw[List.length_set];exact Mu.set_self _ _ _,rfl,rfl,hge,by simp;exact hge,.inr sM,?_⟩
          dsimp only
          rw[hsz]
          omega
         ·rw[List.length_set]
          exact Mu.J4 _ _ oM
       ·cases h
      ·cases h
    ·cases h
 ·cases h
end
end Go.Cs
namespace Go.Cs
open Go
def Le{α:Type}(x y:Option α):Prop:=∀r,x=some r→y=some r
theorem Le.refl{α:Type}(x:Option α):Le x x:=fun _ h=>h
theorem Le.trans{α:Type}{x y z:Option α}(h:Le x y)(k:Le y z):Le x z:=fun r e=>k r (h r e)
theorem Le.none{α:Type}(y:Option α):Le Option.none y:=fun _ h=>by cases h
theorem Le.bind{α β:Type}{x y:Option α}{f g:α→Option β}(h:Le x y)(k:∀a,Le (f a) (g a)):Le (x.bind f) (y.bind g):=by
 intro r e
 cases hx:x with
 |none=>rw[hx]at e;cases e
 |some a=>rw[hx]at e;rw[h a hx];exact k a r e
theorem Le.map{α β:Type}{x y:Option α}(f:α→β)(h:Le x y):Le (x.map f) (y.map f):=by
 intro r e
 cases hx:x with
 |none=>rw[hx]at e;cases e
 |some a=>rw[hx]at e;rw[h a hx];exact e
def Jp.le(F G:Jp):Prop:=∀f a H,Le (F f a H) (G f a H)
theorem DT{F G:Jp}(h:F.le G)(b z:Nat)(r:CV×Gb):Le (KO F b z r) (KO G b z r):=by
 unfold KO
 split
 ·split
  ·exact Le.bind (h _ _ _) fun _=>Le.refl _
  ·exact Le.refl _
 ·exact Le.refl _
theorem Mv{F G:Jp}(h:F.le G)(b:Nat)(args:List CV)(H:Gb):Le (yieldOf F b args H) (yieldOf G b args H):=by
 unfold yieldOf
 split
 ·split
  ·exact Le.bind (h _ _ _) fun _=>DT h _ _ _
  ·exact Le.refl _
 ·exact Le.refl _
theorem LW{F G:Jp}(h:F.le G)(g:CV)(ps:List Nat)(n z:Nat)(E:Env)(H:Gb):Le (Ny F g ps n z E H) (Ny G g ps n z E H):=by
 unfold Ny
 split
 ·split
  ·exact h _ _ _
  ·exact Le.refl _
 ·exact Le.refl _
theorem Gad{F G:Jp}(h:F.le G)(op:Ko)(E:Env)(H:Gb):Le (K3 F op E H) (K3 G op E H):=by
 unfold K3
 cases op with
 |call f args=>exact h _ _ _
 |AX g args=>
  dsimp only
  cases E.ev g<;>first|exact Le.refl _|exact Mv h _ _ _|(dsimp only;split<;>first|exact h _ _ _|exact Le.refl _)
 |Nz g args EL=>
  dsimp only
  split
  ·split
   ·exact h _ _ _
   ·exact Le.refl _
  ·exact Le.bind (Le.refl _) fun _=>h _ _ _
  ·exact Mv h _ _ _
  ·exact Le.refl _
 |RP name x args EL=>
  dsimp only
  split
  ·exact Le.bind (Le.refl _) fun _=>h _ _ _
  ·exact Le.refl _
 |_=>exact Le.refl _
theorem Px{F G:Jp}(h:F.le G)(s:GZ)(E:Env)(H:Gb):Le (QE F s E H) (QE G s E H):=by
 unfold QE
 cases wanted s.guard E
 ·exact Le.refl _
 ·exact Le.map _ (Gad h _ _ _)
theorem Dr{F G:Jp}(h:F.le G):∀(l:List GZ)(E:Env)(H:Gb),Le (K4 F l E H) (K4 G l E H)
 |[],_,_=>Le.refl _
 |s::r,E,H=>by
  unfold K4
  exact Le.bind (Px h s E H) fun p=>Dr h r p.1 p.2
theorem Fb{F G:Jp}(h:F.le G):∀(l:List GQ)(E:Env)(H:Gb)(hs:List Gb),Le (AL F l E H hs) (AL G l E H hs)
 |[],_,_,_=>Le.refl _
 |d::r,E,H,hs=>by
  unfold AL
  split
  ·exact Fb h r _ _ _
  ·split
   ·exact Le.bind (Gad h _ _ _) fun p=>Fb h r _ _ _
   ·refine Le.bind (Le.refl _) fun m=>?_
    split
    ·exact Fb h r _ _ _
    ·exact Le.refl _
theorem Vq{p:JD}{n m:Nat}(h:∀c E H,Le (ev p n c E H) (ev p m c E H)):(Kq p n).le (Kq p m):=by
 intro f a H
 unfold Kq
 refine Le.bind (Le.refl _) fun cf=>?_
 split
 ·exact Le.bind (h _ _ _) fun r=>Le.refl _
 ·exact Le.refl _
theorem YR{R S:Env→Gb→Option (CX×Env×Gb)}(h:∀E H,Le (R E H) (S E H))(q:RM)(mb:Nat)(es:List CV)(it:Nat):∀(l:List CV)(E:Env)(H:Gb),Le (K5 R q mb es it l E H) (K5 S q mb es it l E H)
 |[],E,H=>Le.refl _
 |e::l,E,H=>by
  unfold K5
  refine Le.bind (h _ _) fun r=>?_
  split
  ·cases r.1 with
   |normal=>exact YR h q mb es it l _ _
   |exit id=>exact Le.refl _
   |ret=>exact Le.refl _
  ·exact Le.refl _
theorem FL{R S:Env→Gb→Option (CX×Env×Gb)}(h:∀E H,Le (R E H) (S E H))(id:Nat)(r:CX×Env×Gb):Le (NJ id R r) (NJ id S r):=by
 unfold NJ
 cases r.1.inBlock id with
 |normal=>exact h _ _
 |exit i=>exact Le.refl _
 |ret=>exact Le.refl _
theorem FT{Rb Rr Sb Sr:Env→Gb→Option (CX×Env×Gb)}(hb:∀E H,Le (Rb E H) (Sb E H))(hr:∀E H,Le (Rr E H) (Sr E H))(q:RM)(mb:Nat)(es:List CV)(E:Env)(H:Gb)(l:List CV):
  Le (KH Rb Rr q mb es E H l) (KH Sb Sr q mb es E H l):=by
 unfold KH
 exact Le.map _ (Le.bind (YR hb _ _ _ _ _ _ _) fun r=>FL hr q.id _)
theorem Nk{Rb Rr:Env→Gb→Option (CX×Env×Gb)}{q:RM}{m:CV}{E:Env}{H:Gb}{r:CX×Env×Gb}:
  Qz Rb Rr q m E H=some r↔∃mb es,mapOf H m=some (mb,es)∧∀l,l.Perm es→KH Rb Rr q mb es E H l=some r:=by
 unfold Qz
 constructor
 ·intro h
  rw[Jt]at h
  obtain⟨⟨mb,es⟩,he,h⟩:=h
  split at h
  ·rename_i hx
   simp only[Gx]at h
   subst h
   exact⟨mb,es,he,hx.choose_spec⟩
  ·cases h
 ·rintro ⟨mb,es,he,h⟩
  rw[he,Option.bind_some]
  have hx:∃r,∀l,l.Perm es→KH Rb Rr q mb es E H l=some r:=⟨r,h⟩
  rw[dif_pos hx]
  have h1:=hx.choose_spec es (List.Perm.refl _)
  rw[h es (List.Perm.refl _)]at h1
  exact h1.symm
theorem ZI{Rb Rr Sb Sr:Env→Gb→Option (CX×Env×Gb)}(hb:∀E H,Le (Rb E H) (Sb E H))(hr:∀E H,Le (Rr E H) (Sr E H))(q:RM)(m:CV)(E:Env)(H:Gb):
  Le (Qz Rb Rr q m E H) (Qz Sb Sr q m E H):=by
 intro r h
 obtain⟨mb,es,he,h⟩:=Nk.1 h
 exact Nk.2 ⟨mb,es,he,fun l hl=>FT hb hr _ _ _ _ _ _ _ (h l hl)⟩
def laid{α:Type}(a:α):List α→List (List α)
 |[]=>[[a]]
 |b::l=>(a::b::l)::(laid a l).map (b::·)
def orders{α:Type}:List α→List (List α)
 |[]=>[[]]
 |a::l=>(orders l).flatMap (laid a)
theorem Sq{α:Type}{a:α}:∀(s t:List α),s++a::t∈laid a (s++t)
 |[],[]=>by simp[laid]
 |[],b::t=>by simp[laid]
 |b::s,t=>by
  simp only[List.cons_append,laid,List.mem_cons,YX]
  exact .inr ⟨_,Sq s t,rfl⟩
theorem MQ{α:Type}:∀(l p:List α),p.Perm l→p∈orders l
 |[],p,h=>by rw[List.Perm.eq_nil h];simp[orders]
 |a::l,p,h=>by
  have ha:a∈p:=h.mem_iff.2 NC
  obtain⟨s,t,rfl⟩:=List.append_of_mem ha
  have h1:(s++t).Perm l:=(List.perm_middle.symm.trans h).cons_inv
  simp only[orders,List.mem_flatMap]
  exact⟨s++t,MQ l _ h1,Sq s t⟩
theorem TF{α:Type}{p:Nat→α→Prop}(hm:∀n m a,n≤m→p n a→p m a):∀(l:List α),(∀a∈l,∃n,p n a)→∃n,∀a∈l,p n a
 |[],_=>⟨0,sM⟩
 |a::l,h=>by
  obtain⟨n,hn⟩:=h a NC
  obtain⟨m,hm'⟩:=TF hm l fun b hb=>h b (Um _ hb)
  refine⟨max n m,fun b hb=>?_⟩
  rcases List.mem_cons.1 hb with rfl|hb
  ·exact hm _ _ _ (Nat.le_max_left _ _) hn
  ·exact hm _ _ _ (Nat.le_max_right _ _) (hm' b hb)
theorem KM(p:JD)(n:Nat)(c:Gu)(E:Env)(H:Gb):ev p (n+1) c E H=
  (match c with
  |.skip=>some (.normal,E,H)
  |.region ops=>(K4 (Kq p n) ops E H).map fun q=>(.normal,q.1,q.2)
  |.QC ops=>(AL (Kq p n) ops E H []).map fun q=>(.normal,q.1,q.2)
  |.seq a b=>(ev p n a E H).bind fun r=>match r.1 with|.normal=>ev p n b r.2.1 r.2.2|_=>some r
  |.cond c a b=>match E.ev c with|.bool t=>ev p n (if t then a else b) E H|_=>none
  |.block id c=>(ev p n c E H).map fun r=>(r.1.inBlock id,r.2)
  |.loop c=>(ev p n c E H).bind fun r=>match r.1 with|.normal=>ev p n (.loop c) r.2.1 r.2.2|_=>some r
  |.Qb g ps k z=>(Ny (Kq p n) (E.ev g) ps k z E H).bind (Uq E H.length)
  |.YO q b r=>Qz (ev p n b) (ev p n r) q (E.ev q.m) E H
  |.exit id=>some (.exit id,E,H)
  |.ret=>some (.ret,E,H)):=by
 cases c<;>rfl
theorem Bt(p:JD):∀(n:Nat)(c:Gu)(E:Env)(H:Gb),Le (ev p n c E H) (ev p (n+1) c E H)
 |0,_,_,_=>Le.none _
 |n+1,c,E,H=>by
  have ih:=Bt p n
  rw[KM p n,KM p (n+1)]
  cases c with
  |skip=>exact Le.refl _
  |region ops=>exact Le.map _ (Dr (Vq ih) _ _ _)
  |QC ops=>exact Le.map _ (Fb (Vq ih) _ _ _ _)
  |seq a b=>exact Le.bind (ih _ _ _) fun r=>by cases r.1<;>first|exact ih _ _ _|exact Le.refl _
  |cond c a b=>
   show Le (match E.ev c with|.bool t=>ev p n (if t then a else b) E H|_=>none) (match E.ev c with|.bool t=>ev p (n+1) (if t then a else b) E H|_=>none)
   cases E.ev c<;>first|exact ih _ _ _|exact Le.refl _
  |block id c=>exact Le.map _ (ih _ _ _)
  |loop c=>exact Le.bind (ih _ _ _) fun r=>by cases r.1<;>first|exact ih _ _ _|exact Le.refl _
  |Qb g ps k z=>exact Le.bind (LW (Vq ih) _ _ _ _ _ _) fun r=>Le.refl _
  |YO q b r=>exact ZI (ih b) (ih r) _ _ _ _
  |exit id=>exact Le.refl _
  |ret=>exact Le.refl _
theorem VR(p:JD){n m:Nat}(h:n≤m)(c:Gu)(E:Env)(H:Gb):Le (ev p n c E H) (ev p m c E H):=by
 induction h with
 |refl=>exact Le.refl _
 |step _ ih=>exact ih.trans (Bt p _ c E H)
theorem UK(p:JD){n m:Nat}(h:n≤m):(Kq p n).le (Kq p m):=Vq (VR p h)
open Classical in
noncomputable def lim{α:Type}(f:Nat→Option α):Option α:=if h:∃r n,f n=some r then some h.choose else none
theorem Wx{α:Type}{f:Nat→Option α}(hm:∀n m,n≤m→Le (f n) (f m)){r:α}:lim f=some r↔∃n,f n=some r:=by
 unfold lim
 constructor
 ·intro h
  split at h
  ·rename_i hh
   obtain⟨n,hn⟩:=hh.choose_spec
   simp only[Gx]at h
   exact⟨n,by rw[hn,h]⟩
  ·cases h
 ·rintro ⟨n,hn⟩
  have hh:∃r n,f n=some r:=⟨r,n,hn⟩
  rw[dif_pos hh]
  obtain⟨m,hm'⟩:=hh.choose_spec
  have e1:=hm n (max n m) (Nat.le_max_left _ _) _ hn
  have e2:=hm m (max n m) (Nat.le_max_right _ _) _ hm'
  rw[e1]at e2
  simpa using e2.symm
noncomputable def den(p:JD)(c:Gu)(E:Env)(H:Gb):Option (CX×Env×Gb):=lim fun n=>ev p n c E H
noncomputable def run(p:JD):Jp:=fun f a H=>lim fun n=>Kq p n f a H
theorem Kw{p:JD}{c:Gu}{E:Env}{H:Gb}{r:CX×Env×Gb}:den p c E H=some r↔∃n,ev p n c E H=some r:=
 Wx fun _ _ h=>VR p h c E H
theorem NP{p:JD}{f:Nat}{a:List CV}{H:Gb}{r:CV×Gb}:run p f a H=some r↔∃n,Kq p n f a H=some r:=
 Wx fun _ _ h=>UK p h f a H
theorem EH(p:JD)(n:Nat):(Kq p n).le (run p):=fun _ _ _ r h=>NP.2 ⟨n,h⟩
theorem Wj{α:Type}{x y:Option α}(h:∀r,x=some r↔y=some r):x=y:=by
 cases hx:x with
 |none=>
  cases hy:y with
  |none=>rfl
  |some r=>exact absurd ((h r).2 hy) (by rw[hx];simp)
 |some r=>exact((h r).1 hx).symm
theorem Ld{p:JD}{b z:Nat}{q:CV×Gb}{r:CV×Gb}(h:KO (run p) b z q=some r):∃n,KO (Kq p n) b z q=some r:=by
 unfold KO at*
 split at h
 ·rename_i env s ps e0 z h1 h2
  split at h
  ·rename_i hc
   rw[Jt]at h
   obtain⟨q,hq,h⟩:=h
   obtain⟨n,hn⟩:=NP.1 hq
   exact⟨n,by rw[if_pos hc];simp only[hn,Option.bind_some];exact h⟩
  ·cases h
 ·cases h
theorem Du{p:JD}{b:Nat}{args:List CV}{H:Gb}{r:CV×Gb}(h:yieldOf (run p) b args H=some r):∃n,yieldOf (Kq p n) b args H=some r:=by
 unfold yieldOf at*
 split at h
 ·rename_i s ps env z hb
  split at h
  ·rename_i hc
   rw[Jt]at h
   obtain⟨q,hq,h⟩:=h
   obtain⟨n,hn⟩:=NP.1 hq
   obtain⟨m,hm⟩:=Ld h
   exact⟨max n m,by
    simp only[hc,and_self,if_true]
    rw[UK p (Nat.le_max_left n m) _ _ _ _ hn,Option.bind_some]
    exact DT (UK p (Nat.le_max_right n m)) _ _ _ _ hm⟩
  ·cases h
 ·cases h
theorem Rn{p:JD}{g:CV}{ps:List Nat}{k z:Nat}{E:Env}{H:Gb}{r:CV×Gb}(h:Ny (run p) g ps k z E H=some r):∃n,Ny (Kq p n) g ps k z E H=some r:=by
 unfold Ny at*
 split at h
 ·split at h
  ·rename_i hf;simp only[if_pos hf];exact NP.1 h
  ·cases h
 ·cases h
theorem Sw{p:JD}{op:Ko}{E:Env}{H:Gb}{r:CV×Gb}(h:K3 (run p) op E H=some r):∃n,K3 (Kq p n) op E H=some r:=by
 unfold K3 at*
 cases op with
 |call f args=>exact NP.1 h
 |AX g args=>
  dsimp only at h⊢
  cases hg:E.ev g<;>simp only[hg]at h⊢<;>first
   |exact Du h
   |(
     rename_i f caps
     by_cases hf:f<RB
     ·simp only[if_pos hf]at h⊢;exact NP.1 h
     ·rw[if_neg hf]at h;cases h)
   |cases h
 |Nz g args EL=>
  dsimp only at h⊢
  split at h
  ·split at h
   ·rename_i hf;simp only[if_pos hf];exact NP.1 h
   ·cases h
  ·rw[Jt]at h
   obtain⟨f,hf,h⟩:=h
   obtain⟨n,hn⟩:=NP.1 h
   exact⟨n,by rw[hf];exact hn⟩
  ·exact Du h
  ·cases h
 |RP name x args EL=>
  dsimp only at h⊢
  split at h
  ·rw[Jt]at h
   obtain⟨f,hf,h⟩:=h
   obtain⟨n,hn⟩:=NP.1 h
   exact⟨n,by rw[hf];exact hn⟩
  ·cases h
 |_=>exact⟨0,h⟩
theorem TI{p:JD}{s:GZ}{E:Env}{H:Gb}{r:Env×Gb}(h:QE (run p) s E H=some r):∃n,QE (Kq p n) s E H=some r:=by
 unfold QE at*
 cases hw:wanted s.guard E<;>simp only[hw]at h⊢
 ·exact⟨0,h⟩
 ·simp only[if_true,GR]at h
  obtain⟨q,hq,rfl⟩:=h
  obtain⟨n,hn⟩:=Sw hq
  exact⟨n,by simp[hn]⟩
theorem Oj{p:JD}:∀{l:List GZ}{E:Env}{H:Gb}{r:Env×Gb},K4 (run p) l E H=some r→∃n,K4 (Kq p n) l E H=some r
 |[],_,_,_,h=>⟨0,h⟩
 |s::l,E,H,r,h=>by
  unfold K4 at h
  rw[Jt]at h
  obtain⟨q,hq,hr⟩:=h
  obtain⟨n,hn⟩:=TI hq
  obtain⟨m,hm⟩:=Oj hr
  refine⟨max n m,?_⟩
  unfold K4
  rw[Px (UK p (Nat.le_max_left n m)) s E H _ hn,Option.bind_some]
  exact Dr (UK p (Nat.le_max_right n m)) l _ _ _ hm
theorem Ea{p:JD}:∀{l:List GQ}{E:Env}{H:Gb}{hs:List Gb}{r:Env×Gb},AL (run p) l E H hs=some r→∃n,AL (Kq p n) l E H hs=some r
 |[],_,_,_,_,h=>⟨0,h⟩
 |d::l,E,H,hs,r,h=>by
  unfold AL at h
  by_cases hw:wanted d.s.guard E=false
  ·rw[if_pos hw]at h
   obtain⟨n,hn⟩:=Ea h
   exact⟨n,by unfold AL;rw[if_pos hw];exact hn⟩
  ·rw[if_neg hw]at h
   by_cases h3:d.kind=3
   ·rw[if_pos h3,Jt]at h
    obtain⟨q,hq,hr⟩:=h
    obtain⟨n,hn⟩:=Sw hq
    obtain⟨m,hm⟩:=Ea hr
    refine⟨max n m,?_⟩
    unfold AL
    rw[if_neg hw,if_pos h3,Gad (UK p (Nat.le_max_left n m)) _ _ _ _ hn,Option.bind_some]
    exact Fb (UK p (Nat.le_max_right n m)) _ _ _ _ _ hm
   ·rw[if_neg h3,Jt]at h
    obtain⟨q,hq,hr⟩:=h
    split at hr
    ·rename_i h1
     obtain⟨m,hm⟩:=Ea hr
     exact⟨m,by unfold AL;rw[if_neg hw,if_neg h3,hq,Option.bind_some,if_pos h1];exact hm⟩
    ·cases hr
theorem Dv{p:JD}{b:Gu}{q:RM}{mb:Nat}{es:List CV}{it:Nat}:∀{l:List CV}{E:Env}{H:Gb}{r:CX×Env×Gb},K5 (den p b) q mb es it l E H=some r→∃n,K5 (ev p n b) q mb es it l E H=some r
 |[],E,H,r,h=>⟨0,h⟩
 |e::l,E,H,r,h=>by
  unfold K5 at h
  rw[Jt]at h
  obtain⟨u,hu,h⟩:=h
  obtain⟨n,hn⟩:=Kw.1 hu
  split at h
  case isFalse=>cases h
  rename_i hes
  cases hx:u.1 with
  |normal=>
   simp only[hx]at h
   obtain⟨k,hk⟩:=Dv h
   refine⟨max n k,?_⟩
   unfold K5
   rw[VR p (Nat.le_max_left n k) _ _ _ _ hn,Option.bind_some,if_pos hes]
   simp only[hx]
   exact YR (fun E H=>VR p (Nat.le_max_right n k) b E H) _ _ _ _ _ _ _ _ hk
  |exit i=>exact⟨n,by unfold K5;rw[hn,Option.bind_some,if_pos hes];simp only[hx]at h⊢;exact h⟩
  |ret=>exact⟨n,by unfold K5;rw[hn,Option.bind_some,if_pos hes];simp only[hx]at h⊢;exact h⟩
theorem Ow{p:JD}{c:Gu}{id:Nat}{q r:CX×Env×Gb}(h:NJ id (den p c) q=some r):∃n,NJ id (ev p n c) q=some r:=by
 unfold NJ at*
 cases hx:q.1.inBlock id with
 |normal=>simp only[hx]at h⊢;exact Kw.1 h
 |exit i=>simp only[hx]at h⊢;exact⟨0,h⟩
 |ret=>simp only[hx]at h⊢;exact⟨0,h⟩
theorem O9{p:JD}{b c:Gu}{q:RM}{mb:Nat}{es:List CV}{E:Env}{H:Gb}{l:List CV}{r:CX×Env×Gb}(h:KH (den p b) (den p c) q mb es E H l=some r):
  ∃n,KH (ev p n b) (ev p n c) q mb es E H l=some r:=by
 unfold KH at h
 rw[GR]at h
 obtain⟨y,hy,rfl⟩:=h
 rw[Jt]at hy
 obtain⟨u,hu,hy⟩:=hy
 obtain⟨n,hn⟩:=Dv hu
 obtain⟨k,hk⟩:=Ow hy
 refine⟨max n k,?_⟩
 unfold KH
 rw[YR (fun E H=>VR p (Nat.le_max_left n k) b E H) _ _ _ _ _ _ _ _ hn,Option.bind_some,FL (fun E H=>VR p (Nat.le_max_right n k) c E H) _ _ _ hk]
 rfl
theorem Ra{p:JD}{b c:Gu}{q:RM}{m:CV}{E:Env}{H:Gb}{r:CX×Env×Gb}:
  (∃n,Qz (ev p n b) (ev p n c) q m E H=some r)↔Qz (den p b) (den p c) q m E H=some r:=by
 constructor
 ·rintro ⟨n,h⟩
  exact ZI (fun E H r h=>Kw.2 ⟨n,h⟩) (fun E H r h=>Kw.2 ⟨n,h⟩) _ _ _ _ _ h
 ·intro h
  obtain⟨mb,es,he,h⟩:=Nk.1 h
  obtain⟨n,hn⟩:=TF (p:=fun n l=>l.Perm es→KH (ev p n b) (ev p n c) q mb es E H l=some r)
   (fun n k l hnk h hl=>FT (fun E H=>VR p hnk b E H) (fun E H=>VR p hnk c E H) _ _ _ _ _ _ _ (h hl)) (orders es) (fun l _=>by
    by_cases hl:l.Perm es
    ·obtain⟨n,hn⟩:=O9 (h l hl)
     exact⟨n,fun _=>hn⟩
    ·exact⟨0,fun h=>absurd h hl⟩)
  exact⟨n,Nk.2 ⟨mb,es,he,fun l hl=>hn l (MQ es l hl) hl⟩⟩
theorem VD(p:JD)(c:Gu)(E:Env)(H:Gb):den p c E H=
  (match c with
  |.skip=>some (.normal,E,H)
  |.region ops=>(K4 (run p) ops E H).map fun q=>(.normal,q.1,q.2)
  |.QC ops=>(AL (run p) ops E H []).map fun q=>(.normal,q.1,q.2)
  |.seq a b=>(den p a E H).bind fun r=>match r.1 with|.normal=>den p b r.2.1 r.2.2|_=>some r
  |.cond c a b=>match E.ev c with|.bool t=>den p (if t then a else b) E H|_=>none
  |.block id c=>(den p c E H).map fun r=>(r.1.inBlock id,r.2)
  |.loop c=>(den p c E H).bind fun r=>match r.1 with|.normal=>den p (.loop c) r.2.1 r.2.2|_=>some r
  |.Qb g ps k z=>(Ny (run p) (E.ev g) ps k z E H).bind (Uq E H.length)
  |.YO q b r=>Qz (den p b) (den p r) q (E.ev q.m) E H
  |.exit id=>some (.exit id,E,H)
  |.ret=>some (.ret,E,H)):=by
 apply Wj
 intro r
 rw[Kw]
 have up:(∃n,ev p n c E H=some r)↔∃n,ev p (n+1) c E H=some r:=
  ⟨fun⟨n,h⟩=>⟨n,Bt p n c E H r h⟩,fun⟨n,h⟩=>⟨n+1,h⟩⟩
 rw[up]
 simp only[KM]
 have two:∀(a b:Gu)(r:CX×Env×Gb),(∃n,((ev p n a E H).bind fun r=>match r.1 with|.normal=>ev p n b r.2.1 r.2.2|_=>some r)=some r)↔
   ((den p a E H).bind fun r=>match r.1 with|.normal=>den p b r.2.1 r.2.2|_=>some r)=some r:=by
  intro a b r
  constructor
  ·rintro ⟨n,h⟩
   rw[Jt]at h⊢
   obtain⟨q,hq,hr⟩:=h
   refine⟨q,Kw.2 ⟨n,hq⟩,?_⟩
   cases hx:q.1<;>simp only[hx]at hr⊢<;>first|exact Kw.2 ⟨n,hr⟩|exact hr
  ·intro h
   rw[Jt]at h
   obtain⟨q,hq,hr⟩:=h
   obtain⟨n,hn⟩:=Kw.1 hq
   cases hx:q.1<;>simp only[hx]at hr
   ·obtain⟨m,hm⟩:=Kw.1 hr
    refine⟨max n m,?_⟩
    rw[VR p (Nat.le_max_left n m) _ _ _ _ hn,Option.bind_some]
    simp only[hx]
    exact VR p (Nat.le_max_right n m) _ _ _ _ hm
   all_goals exact⟨n,by rw[hn,Option.bind_some];simp only[hx];exact hr⟩
 cases c with
 |skip=>simp
 |region ops=>
  simp only[GR]
  constructor
  ·rintro ⟨n,q,hq,rfl⟩;exact⟨q,Dr (EH p n) _ _ _ _ hq,rfl⟩
  ·rintro ⟨q,hq,rfl⟩;obtain⟨n,hn⟩:=Oj hq;exact⟨n,q,hn,rfl⟩
 |QC ops=>
  simp only[GR]
  constructor
  ·rintro ⟨n,q,hq,rfl⟩;exact⟨q,Fb (EH p n) _ _ _ _ _ hq,rfl⟩
  ·rintro ⟨q,hq,rfl⟩;obtain⟨n,hn⟩:=Ea hq;exact⟨n,q,hn,rfl⟩
 |seq a b=>exact two a b r
 |cond c a b=>
  cases hc:E.ev c<;>simp only[hc]<;>first|exact Kw.symm|simp
 |block id c=>
  simp only[GR]
  constructor
  ·rintro ⟨n,q,hq,rfl⟩;exact⟨q,Kw.2 ⟨n,hq⟩,rfl⟩
  ·rintro ⟨q,hq,rfl⟩;obtain⟨n,hn⟩:=Kw.1 hq;exact⟨n,q,hn,rfl⟩
 |loop c=>exact two c (.loop c) r
 |Qb g ps k z=>
  simp only[Jt]
  constructor
  ·rintro ⟨n,q,hq,hr⟩;exact⟨q,LW (EH p n) _ _ _ _ _ _ _ hq,hr⟩
  ·rintro ⟨q,hq,hr⟩;obtain⟨n,hn⟩:=Rn hq;exact⟨n,q,hn,hr⟩
 |YO q b c=>exact Ra
 |exit id=>simp
 |ret=>simp
theorem run_eq{p:JD}{f:Nat}{cf:Gm}(hf:p f=some cf)(a:List CV)(ha:a.length≤cf.n)(H:Gb):
  run p f a H=(den p cf.body (entry a) H).bind (leave cf):=by
 apply Wj
 intro r
 rw[NP]
 simp only[Kq,hf,Option.bind_some,if_pos ha]
 constructor
 ·rintro ⟨n,h⟩
  rw[Jt]at h⊢
  obtain⟨q,hq,hr⟩:=h
  exact⟨q,Kw.2 ⟨n,hq⟩,hr⟩
 ·intro h
  rw[Jt]at h
  obtain⟨q,hq,hr⟩:=h
  obtain⟨n,hn⟩:=Kw.1 hq
  exact⟨n,by rw[hn];exact hr⟩
def VP(F:Jp):Prop:=∀f a H r,F f a H=some r→H.length≤r.2.length
theorem UR{H H':Gb}{b o:Nat}{vs:List CV}(h:Qq H b o vs=some H'):H'.length=H.length:=by
 unfold Qq at h
 split at h
 ·split at h
  ·simp only[Gx]at h;subst h;simp
  ·cases h
 ·cases h
theorem Mc(H:Gb)(m:Option JI×(Nat→CV)):H.length≤(made H m).2.length:=by
 unfold made
 split<;>simp
theorem Rz{H:Gb}{Jf n:Nat}{s:CV}{new:List CV}{r:CV×Gb}(h:Jv H Jf s n new=some r):H.length≤r.2.length:=by
 unfold Jv at h
 split at h
 ·split at h
  ·simp only[Gx]at h;subst h;exact Nat.le_refl _
  ·split at h
   ·simp only[Gx]at h;subst h;simp
   ·cases h
 ·split at h
  ·simp only[Gx]at h;subst h;exact Nat.le_refl _
  ·split at h
   ·rw[GR]at h
    obtain⟨H',hs,rfl⟩:=h
    exact Nat.le_of_eq (UR hs).symm
   ·split at h
    ·rw[Jt]at h
     obtain⟨old,_,h⟩:=h
     split at h
     ·split at h
      ·split at h
       ·simp only[Gx]at h;subst h;simp
       ·cases h
      ·cases h
     ·simp only[Gx]at h;subst h;simp
    ·cases h
 ·cases h
theorem QD{H H':Gb}{b:Nat}{es:List CV}(h:J2 H b es=some H'):H'.length=H.length:=by
 unfold J2 at h
 split at h
 ·split at h
  ·simp only[Gx]at h;subst h;simp
  ·cases h
 ·cases h
theorem Dz{H H':Gb}{k:IntKind}{m x v:CV}(h:Q6 H k m x v=some H'):H'.length=H.length:=by
 unfold Q6 at h
 split at h
 ·split at h
  ·simp only[Jt]at h
   obtain⟨es,_,r,_,h⟩:=h
   split at h<;>exact QD h
  ·cases h
 ·cases h
theorem Ef{H H':Gb}{k:IntKind}{m x:CV}(h:Qf H k m x=some H'):H'.length=H.length:=by
 unfold Qf at h
 split at h
 ·split at h
  ·simp only[Jt]at h
   obtain⟨es,_,r,_,h⟩:=h
   split at h<;>exact QD h
  ·cases h
 ·split at h
  ·simp only[Gx]at h;subst h;rfl
  ·cases h
 ·cases h
theorem Ggi{op:Ko}{E:Env}{H:Gb}{r:CV×Gb}(h:Vu op E H=some r):H.length≤r.2.length:=by
 have steady:(GL op E H).map (made H)=some r→H.length≤r.2.length:=by
  intro h
  rw[GR]at h
  obtain⟨m,_,rfl⟩:=h
  exact Mc H m
 cases op with
 |store n x y=>
  simp only[Vu]at h
  split at h
  ·split at h
   ·rw[GR]at h
    obtain⟨H',hs,rfl⟩:=h
    exact Nat.le_of_eq (UR hs).symm
   ·cases h
  ·cases h
 |append n s x=>
  simp only[Vu,Jt]at h
  obtain⟨q,_,h⟩:=h
  exact Rz h
 |copy n d s=>
  simp only[Vu]at h
  split at h
  ·split at h
   ·simp only[Gx]at h;subst h;exact Nat.le_refl _
   ·rw[Jt]at h
    obtain⟨cs,_,h⟩:=h
    rw[GR]at h
    obtain⟨H',hs,rfl⟩:=h
    exact Nat.le_of_eq (UR hs).symm
  all_goals first|cases h;done|(simp only[Gx]at h;subst h;exact Nat.le_refl _)
 |clear z s=>
  simp only[Vu]at h
  split at h
  ·split at h
   ·simp only[Gx]at h;subst h;exact Nat.le_refl _
   ·rw[GR]at h
    obtain⟨H',hs,rfl⟩:=h
    exact Nat.le_of_eq (UR hs).symm
  all_goals first|cases h;done|(simp only[Gx]at h;subst h;exact Nat.le_refl _)
 |QY k m x v=>
  simp only[Vu,GR]at h
  obtain⟨H',hs,rfl⟩:=h
  exact Nat.le_of_eq (Dz hs).symm
 |VE k m x=>
  simp only[Vu,GR]at h
  obtain⟨H',hs,rfl⟩:=h
  exact Nat.le_of_eq (Ef hs).symm
 |Vf m=>
  simp only[Vu]at h
  split at h
  ·rw[GR]at h
   obtain⟨H',hs,rfl⟩:=h
   exact Nat.le_of_eq (QD hs).symm
  ·simp only[Gx]at h;subst h;exact Nat.le_refl _
  ·cases h
 |Fq x=>
  simp only[Vu]at h
  split at h
  ·split at h
   ·simp only[Gx]at h;subst h;exact Nat.le_refl _
   ·split at h
    ·simp only[Jt,GR]at h
     obtain⟨cs,_,l,_,H',hs,rfl⟩:=h
     exact Nat.le_of_eq (UR hs).symm
    ·cases h
  ·simp only[Gx]at h;subst h;exact Nat.le_refl _
  ·cases h
 |KL g x=>
  simp only[Vu]at h
  split at h
  ·split at h
   ·split at h
    ·simp only[Jt]at h
     obtain⟨y,_,l,_,h⟩:=h
     split at h
     ·simp only[Gx]at h;subst h;exact Nat.le_refl _
     ·split at h
      ·simp only[Gx]at h;subst h;simp
      ·cases h
    ·cases h
   ·cases h
  ·cases h
 |_=>exact steady h
theorem OB{F:Jp}(hF:VP F){b z:Nat}{q:CV×Gb}{r:CV×Gb}(h:KO F b z q=some r):q.2.length≤r.2.length:=by
 unfold KO at h
 split at h
 ·split at h
  ·rw[Jt]at h
   obtain⟨q,hq,h⟩:=h
   have:=hF _ _ _ _ hq
   rw[List.length_set]at this
   split at h
   ·simp only[Gx]at h;subst h;simpa using this
   ·cases h
  ·cases h
 ·cases h
theorem FR{F:Jp}(hF:VP F){b:Nat}{args:List CV}{H:Gb}{r:CV×Gb}(h:yieldOf F b args H=some r):H.length≤r.2.length:=by
 unfold yieldOf at h
 split at h
 ·split at h
  ·rw[Jt]at h
   obtain⟨q,hq,h⟩:=h
   exact Jr (hF _ _ _ _ hq) (OB hF h)
  ·cases h
 ·cases h
theorem SQ{F:Jp}(hF:VP F){g:CV}{ps:List Nat}{k z:Nat}{E:Env}{H:Gb}{r:CV×Gb}(h:Ny F g ps k z E H=some r):H.length+1≤r.2.length:=by
 unfold Ny at h
 split at h
 ·split at h
  ·have:=hF _ _ _ _ h;simpa using this
  ·cases h
 ·cases h
theorem Yz{E:Env}{b:Nat}{r:CV×Gb}{q:CX×Env×Gb}(h:Uq E b r=some q):q.2.2.length=r.2.length∧q.2.1=E:=by
 unfold Uq at h
 split at h
 ·split at h
  ·simp only[Gx]at h;subst h;simp
  ·split at h
   ·simp only[Gx]at h;subst h;simp
   ·split at h
    ·simp only[Gx]at h;subst h;simp
    ·cases h
 ·cases h
theorem Et{cf:Gm}{r:CX×Env×Gb}{q:CV×Gb}(h:leave cf r=some q):q.2=r.2.2:=by
 unfold leave at h
 split at h
 ·simp only[Gx]at h;subst h;rfl
 split at h
 ·split at h
  ·simp only[Gx]at h;subst h;rfl
  ·cases h
 ·split at h
  ·rw[GR]at h;obtain⟨v,_,rfl⟩:=h;rfl
  ·rw[GR]at h;obtain⟨v,_,rfl⟩:=h;rfl
  ·cases h
theorem Sa{F:Jp}(hF:VP F){op:Ko}{E:Env}{H:Gb}{r:CV×Gb}(h:K3 F op E H=some r):H.length≤r.2.length:=by
 cases op with
 |call f args=>exact hF _ _ _ _ h
 |AX g args=>
  simp only[K3]at h
  split at h
  ·split at h
   ·exact hF _ _ _ _ h
   ·cases h
  ·exact FR hF h
  ·cases h
 |Nz g args EL=>
  simp only[K3]at h
  split at h
  ·split at h
   ·exact hF _ _ _ _ h
   ·cases h
  ·rw[Jt]at h
   obtain⟨f,_,h⟩:=h
   exact hF _ _ _ _ h
  ·exact FR hF h
  ·cases h
 |RP name x args EL=>
  simp only[K3]at h
  split at h
  ·rw[Jt]at h
   obtain⟨f,_,h⟩:=h
   exact hF _ _ _ _ h
  ·cases h
 |_=>simp only[K3]at h;exact Ggi h
theorem UG{F:Jp}(hF:VP F):∀{l:List GZ}{E:Env}{H:Gb}{r:Env×Gb},K4 F l E H=some r→H.length≤r.2.length
 |[],E,H,r,h=>by simp only[K4,Gx]at h;subst h;exact Nat.le_refl _
 |s::l,E,H,r,h=>by
  simp only[K4,Jt]at h
  obtain⟨q,hq,hr⟩:=h
  refine Jr ?_ (UG hF hr)
  unfold QE at hq
  split at hq
  ·rw[GR]at hq
   obtain⟨p,hp,rfl⟩:=hq
   exact Sa hF hp
  ·simp only[Gx]at hq;subst hq;exact Nat.le_refl _
theorem Ik{F:Jp}(hF:VP F):∀{l:List GQ}{E:Env}{H:Gb}{hs:List Gb}{r:Env×Gb},AL F l E H hs=some r→H.length≤r.2.length
 |[],E,H,hs,r,h=>by simp only[AL,Gx]at h;subst h;exact Nat.le_refl _
 |d::l,E,H,hs,r,h=>by
  unfold AL at h
  split at h
  ·exact Ik hF h
  ·split at h
   ·rw[Jt]at h
    obtain⟨q,hq,hr⟩:=h
    exact Jr (Sa hF hq) (Ik hF hr)
   ·rw[Jt]at h
    obtain⟨m,_,hr⟩:=h
    split at hr
    ·exact Jr (Mc H m) (Ik hF hr)
    ·cases hr
theorem Vo{R:Env→Gb→Option (CX×Env×Gb)}(hR:∀E H r,R E H=some r→H.length≤r.2.2.length){q:RM}{mb:Nat}{es:List CV}{it:Nat}:∀{l:List CV}{E:Env}{H:Gb}{r:CX×Env×Gb},K5 R q mb es it l E H=some r→H.length≤r.2.2.length
 |[],E,H,r,h=>by
  simp only[K5,Gx]at h;subst h;exact Nat.le_refl _
 |e::l,E,H,r,h=>by
  unfold K5 at h
  rw[Jt]at h
  obtain⟨u,hu,h⟩:=h
  have:=hR _ _ _ hu
  split at h
  ·split at h
   ·exact Jr this (Vo hR h)
   ·simp only[Gx]at h;subst h;exact this
  ·cases h
theorem Ki{n:Nat}{H:Gb}(h:n≤H.length):(KP n H).length=H.length:=by
 simp[KP];omega
theorem Q7{R:Env→Gb→Option (CX×Env×Gb)}(hR:∀E H r,R E H=some r→H.length≤r.2.2.length){id:Nat}{q r:CX×Env×Gb}(h:NJ id R q=some r):q.2.2.length≤r.2.2.length:=by
 unfold NJ at h
 split at h
 ·exact hR _ _ _ h
 ·simp only[Gx]at h;subst h;exact Nat.le_refl _
theorem PV{Rb Rr:Env→Gb→Option (CX×Env×Gb)}(hb:∀E H r,Rb E H=some r→H.length≤r.2.2.length)(hr:∀E H r,Rr E H=some r→H.length≤r.2.2.length){q:RM}{mb:Nat}{es:List CV}{E:Env}{H:Gb}{l:List CV}{r:CX×Env×Gb}
  (h:KH Rb Rr q mb es E H l=some r):H.length≤r.2.2.length:=by
 unfold KH at h
 rw[GR]at h
 obtain⟨y,hy,rfl⟩:=h
 rw[Jt]at hy
 obtain⟨u,hu,hy⟩:=hy
 have h1:=Vo hb hu
 have h2:=Q7 hr hy
 simp only[Nq,List.length_cons,List.length_nil,List.length_set]at h1 h2
 dsimp only
 rw[Ki oM]
 omega
theorem Kg(p:JD):∀(n:Nat){c:Gu}{E:Env}{H:Gb}{r:CX×Env×Gb},ev p n c E H=some r→H.length≤r.2.2.length
 |0,_,_,_,_,h=>by cases h
 |n+1,c,E,H,r,h=>by
  have hF:VP (Kq p n):=by
   intro f a H r h
   unfold Kq at h
   rw[Jt]at h
   obtain⟨cf,_,h⟩:=h
   split at h
   ·rw[Jt]at h
    obtain⟨q,hq,hl⟩:=h
    rw[Et hl]
    exact Kg p n hq
   ·cases h
  rw[KM]at h
  cases c with
  |skip=>simp only[Gx]at h;subst h;exact Nat.le_refl _
  |region ops=>rw[GR]at h;obtain⟨q,hq,rfl⟩:=h;exact UG hF hq
  |QC ops=>rw[GR]at h;obtain⟨q,hq,rfl⟩:=h;exact Ik hF hq
  |seq a b=>
   rw[Jt]at h
   obtain⟨q,hq,h⟩:=h
   have h1:=Kg p n hq
   split at h
   ·exact Jr h1 (Kg p n h)
   ·simp only[Gx]at h;subst h;exact h1
  |cond c a b=>
   dsimp only at h
   split at h
   ·exact Kg p n h
   ·cases h
  |block id c=>
   rw[GR]at h
   obtain⟨q,hq,rfl⟩:=h
   have:=Kg p n hq
   exact this
  |loop c=>
   rw[Jt]at h
   obtain⟨q,hq,h⟩:=h
   have h1:=Kg p n hq
   split at h
   ·exact Jr h1 (Kg p n h)
   ·simp only[Gx]at h;subst h;exact h1
  |Qb g ps k z=>
   rw[Jt]at h
   obtain⟨q,hq,h⟩:=h
   have h1:=SQ hF hq
   have h2:=(Yz h).1
   omega
  |YO q b c=>
   obtain⟨mb,es,_,h⟩:=Nk.1 h
   exact PV (fun E H r h=>Kg p n h) (fun E H r h=>Kg p n h) (h es (List.Perm.refl _))
  |exit id=>simp only[Gx]at h;subst h;exact Nat.le_refl _
  |ret=>simp only[Gx]at h;subst h;exact Nat.le_refl _
theorem QV(p:JD)(n:Nat):VP (Kq p n):=by
 intro f a H r h
 unfold Kq at h
 rw[Jt]at h
 obtain⟨cf,_,h⟩:=h
 split at h
 ·rw[Jt]at h
  obtain⟨q,hq,hl⟩:=h
  rw[Et hl]
  exact Kg p n hq
 ·cases h
end Go.Cs
namespace Go.Cs
open Go Go.RowKit
section
variable {P : Program} {F : Jp} {ν : Mu} {E : Env} {a : Act} {w : World} {H : Gb} {K : Nat → Option Obj} {B : Bs} {L : Nat} {rd : Option Nat} {dp : Nat}
theorem NV{f:Nat}{fn:Func}(h1:P.funcs[f]?=some fn) (h2:fn.name≠ "runtime.NumGoroutine") (h3:fn.body.isSome=true) (args:Array Value):
  (callFunc f args).run P w=.ok (.enter f args) w:=by
 obtain⟨c,hc⟩:=Option.isSome_iff_exists.1 h3
 simp[callFunc,h1,h2,hc]
theorem UQ(hF:Ei P F)(hBr:Sj P B)(hS:St K B L ν H w){o:Oper}(hnd:∀c,o.op≠.defer c){f:Nat}{args:List CV}{args':Array Value}{r:CV×Gb}(hf:f<RB)(h:F f args H=some r)(hL:r.2.length≤L)(hv:VL ν args args'.toList)
  (hr:∀fn,P.funcs[f]?=some fn→fn.name≠ "runtime.NumGoroutine" →fn.body.isSome=true→(execOp a.eval o).run P w=.ok (.enter f args') w):Next.after rd dp P o a w K B L H ν r:=by
 obtain⟨⟨fn,h1,h2,h3⟩,Gah⟩:=(hF f args H r h).2.1 hf
 intro next Q hn
 refine⟨fun _ _=>trivial,?_⟩
 rw[Oper.semAt_eq _ _ _ hnd,hr fn h1 h2 h3,Oper.uponIn_enter]
 refine⟨M5,?_⟩
 have hc:CallsIn Fence.wide (dp-1) P f args' w _:=callsIn_wide.2 (Gah K B L ν w args' hBr hL hS hv)
 refine CallsIn.mono (show CallsIn (Fr rd) (dp-1) P f args' w _ from hc) fun e w' he=>?_
 obtain⟨v',ν',rfl,hS',hV,hx⟩:=he
 exact hn v' w' ν' hS' hV hx
theorem GfF(l:List CV)(p t:Nat)(v:CV)(hp:p<l.length):(l.set p v).getD t .undef=if t=p then v else l.getD t .undef:=by
 simp only[Qc]
 by_cases h:t=p
 ·subst h;rw[KI hp,if_pos rfl];rfl
 ·rw[JU (Ne.symm h),if_neg h]
theorem Sn:∀(ps:List Nat)(args:List CV)(vals:List Value)(env:List CV)(tmps:Array Value),VL ν args vals→args.length=ps.length→(∀t∈ps,t<env.length)→env.length≤tmps.size→
  (∀t,V ν (env.getD t .undef) (tmps.getD t undef))→
  ((ps.zip vals).foldl (fun(tm:Array Value)(q:Nat×Value)=>tm.setIfInBounds q.1 q.2) tmps).size=tmps.size∧
  ∀t,V ν ((U0 env (ps.map fun(t:Nat)=>CV.i (t:Int)) args).getD t .undef) (((ps.zip vals).foldl (fun(tm:Array Value)(q:Nat×Value)=>tm.setIfInBounds q.1 q.2) tmps).getD t undef)
 |[],args,vals,env,tmps,_,_,_,_,h=>⟨sM,by cases args<;>simpa[U0]using h⟩
 |p::ps,[],vals,env,tmps,_,hl,_,_,_=>by simp at hl
 |p::ps,c::args,vals,env,tmps,hv,hl,hp,hs,h=>by
  simp only[VL]at hv
  obtain⟨v,rest,rfl,hv1,hv2⟩:=hv
  have hpl:p<env.length:=hp p NC
  obtain⟨e1,e2⟩:=Sn ps args rest (env.set p c) (tmps.setIfInBounds p v) hv2 (by simpa using hl) (fun t ht=>by rw[List.length_set];exact hp t (Um _ ht)) (by simpa using hs) (fun t=>by
   rw[GfF _ _ _ _ hpl]
   by_cases ht:t=p
   ·subst ht;rw[if_pos rfl,Array.getD_eq_getD_getElem?,Array.getElem?_setIfInBounds_self_of_lt oM];exact hv1
   ·rw[if_neg ht,Array.getD_eq_getD_getElem?,GjL (Ne.symm ht),←Array.getD_eq_getD_getElem?];exact h t)
  refine⟨by simpa using e1,fun t=>?_⟩
  have:=e2 t
  simpa[U0]using this
theorem St.turn(hS:St K B L ν H w){b:Nat}{k:JI}{m:Zz}(hb:H[b]?=some k) (hk:k.mode=.map) (hm:ν b=some m) {k2:JI} (hk2:k2.mode=.map) {x:Obj} (hr:Ie B ν m.c k2 x):
  St K B L ν (H.set b k2) (w.putObj m.c x):=
 ⟨hS.Nh.setObj hb hk hm hk2 hr,fun b' hb' hl=>hS.dom b' (by simpa using hb') hl⟩
theorem TM{s s':Int}{ps ps' env env':List CV}{z z':Nat}(h:(⟨[.int .i64 s,.Ju ps,.Ju env],.map,z+1⟩:JI)=Jk s' ps' env' z'):s=s'∧ps=ps'∧env=env'∧z=z':=by
 simp only[Jk,JI.mk.injEq,List.cons.injEq,CV.int.injEq,CV.Ju.injEq,Nat.add_right_cancel_iff,and_true,true_and]at h
 exact⟨h.1.1,h.1.2.1,h.1.2.2,h.2⟩
theorem D8(hS:St K B L ν H w){b:Nat}{s:Int}{ps env:List CV}{z:Nat}{m:Zz}(hb:H[b]?=some ⟨[.int .i64 s,.Ju ps,.Ju env],.map,z+1⟩) (hm:ν b=some m):
  ∃r,w.heap[m.c]?=some (.loop r)∧ps=(r.params.toList.map fun(t:Nat)=>CV.i (t:Int))∧StR s r∧(∀t,V ν (env.getD t .undef) (r.tmps.getD t undef))∧env.length≤r.tmps.size∧B.rnd z env.length r.fn r.params r.assign r.body:=by
 obtain⟨ob,hw,Vj,-,-⟩:=hS.Nh.mp b _ m hb rfl hm
 obtain⟨r,rfl,s',env',z',h1,h2,h3,h4,h5⟩:=Vj.loop sM
 obtain⟨rfl,rfl,rfl,rfl⟩:=TM h1
 exact⟨r,hw,rfl,h2,h3,h4,h5⟩
theorem StR.ready{r:Loop}(h:StR 0 r):r.state=.ready∧r.pending=none:=by
 rcases h with⟨_,h⟩|h|⟨h,_⟩|⟨id,h,_⟩
 ·exact h
 ·cases h
 ·cases h
 ·omega
theorem FZ(hF:Ei P F)(hBr:Sj P B)(hS:St K B L ν H w){o:Oper}(hnd:∀c,o.op≠.defer c){b:Nat}{m:Zz}(hm:ν b=some m){args:List CV}{args':Array Value}{r:CV×Gb}(h:yieldOf F b args H=some r)
  (hL:r.2.length≤L)(hv:VL ν args args'.toList)(hr:(execOp a.eval o).run P w=(Instr.yield m.c args').run P w):Next.after rd dp P o a w K B L H ν r:=by
 unfold yieldOf at h
 split at h
 case h_2=>cases h
 rename_i s ps env z hb
 split at h
 case isFalse=>cases h
 rename_i hc
 obtain⟨rfl,hlen⟩:=hc
 rw[Jt]at h
 obtain⟨q,hq,h⟩:=h
 obtain⟨r0,hw0,rfl,GnX,hV0,hsz0,hrnd⟩:=D8 hS hb hm
 obtain⟨Gpu,-⟩:=GnX.ready
 rw[hBr.rnd]at hrnd
 have TP:args'.size=r0.params.size:=by have:=hv.length;simp at this hlen;omega
 obtain⟨hq1,-,hq2⟩:=hF _ _ _ _ hq
 obtain⟨GvK,he1,hl1,hassign⟩:=(hq2 z _ _ _ _ _ hrnd).1 rfl
 obtain⟨q1,qH⟩:=q
 simp only at he1 hq1
 subst he1
 obtain⟨hsz1,hV1⟩:=Sn (ν:=ν) r0.params.toList args args'.toList env r0.tmps hv (by simpa using hlen) hrnd.2.1 hsz0 hV0
 intro next Q hn
 refine⟨fun _ _=>trivial,?_⟩
 rw[Oper.semAt_eq _ _ _ hnd,hr,run_yield hw0 TP,Oper.uponIn_round]
 refine⟨M5,?_⟩
 unfold KO at h
 split at h
 case h_2=>cases h
 rename_i Gsl s2 ps2 e2 z2 hh1 hb2
 simp only[CV.Ju.injEq]at hh1
 subst hh1
 simp only at hb2
 split at h
 case isFalse=>cases h
 rename_i hc2
 obtain⟨rfl,rfl⟩:=hc2
 rw[Jt]at h
 obtain⟨p,hp,h⟩:=h
 obtain⟨hp1,-,hp2⟩:=hF _ _ _ _ hp
 have hbody:=(hp2 z2 _ _ _ _ _ hrnd).2 rfl
 obtain⟨p1,pH⟩:=p
 simp only at h hp1
 split at h
 case h_2=>cases h
 rename_i j s3 ps3 e3 z3 hb3
 simp only[Gx]at h
 subst h
 simp only[List.length_set]at hL hp1
 have hbl:b<H.length:=(Ni.1 hb).1
 have hF2:F.le F:=fun _ _ _=>Le.refl _
 refine roundIn_of_wpIn (F:=Fr rd) trivial (wpIn_mono (hassign K B L ν w ((r0.params.zip args').foldl (fun tmps (t,a)=>tmps.setIfInBounds t a) r0.tmps) m.c (dp-1) hBr (by dsimp only;omega) hS ?_ ?_) fun x a1 w1 hx=>?_)
 ·intro t
  have:=hV1 t
  rw[←Array.foldl_toList,Array.toList_zip]
  exact this
 ·rw[←Array.foldl_toList,Array.toList_zip]
  exact Jr hsz0 (Nat.le_of_eq hsz1.symm)
 obtain⟨ν1,rfl,hd1,hs1,hVa,hS1,hE1⟩:=hx
 have hm1:ν1 b=some m:=by rw[hE1.same b hbl];exact hm
 obtain⟨r1,hw1,rfl,Gi8,GmF,GkU,GkQ⟩:=D8 hS1 hb2 hm1
 obtain⟨GhO,Gqr⟩:=Gi8.ready
 refine⟨_,run_beginRound hw1 GhO,?_⟩
 have Gp3:=hS1.turn hb2 rfl hm1 (k2:=Jk 1 (r1.params.toList.map fun(t:Nat)=>CV.i (t:Int)) e2 z2) rfl (x:=.loop {r1 with state:=.busy}) (.inr ⟨_,rfl,1,e2,z2,rfl,.inr (.inl rfl),GmF,GkU,GkQ⟩)
 obtain⟨t1,d1⟩:=a1
 simp only at hd1 hs1 hVa
 subst hd1
 refine wpIn_mono (hbody K B L ν1 _ t1 m.c (dp-1) hBr oM Gp3 hVa hs1) fun x a2 w2 hx=>?_
 obtain⟨ν2,hxc,hS2,hE2⟩:=hx
 have hm2:ν2 b=some m:=by rw[hE2.same b (by simp only[List.length_set];omega)];exact hm1
 obtain⟨r3,hw3,rfl,Gux,hV3,GnN,GlP⟩:=D8 hS2 hb3 hm2
 have hE:∀k2:JI,Ext L H ν (pH.set b k2) ν2:=fun k2=>hE1.trans (Ext.trans (⟨sM,fun _ _=>rfl,fun _ _=>rfl⟩:Ext L qH ν1 (qH.set b (Jk 1 (r1.params.toList.map fun(t:Nat)=>CV.i (t:Int)) e2 z2)) ν1) (hE2.trans ⟨sM,fun _ _=>rfl,fun _ _=>rfl⟩))
 have fin:∀(jump:Option Code)(s':Int),StR s' {r3 with state:=if jump.isNone then .ready else .done,pending:=jump}→∃v w',(Instr.endRound m.c jump).run P w2=.ok v w'∧v=.bool jump.isNone∧St K B L ν2 (pH.set b (Jk s' (r3.params.toList.map fun(t:Nat)=>CV.i (t:Int)) e3 z3)) w':=by
  intro jump s' hs'
  exact⟨_,_,run_endRound jump hw3,rfl,hS2.turn hb3 rfl hm2 rfl (.inr ⟨_,rfl,s',e3,z3,rfl,hs',hV3,GnN,GlP⟩)⟩
 rcases hxc with⟨hj,rfl⟩|⟨hj,rfl⟩|⟨id,hj,rfl⟩
 ·simp only[CV.i,CV.int.injEq,true_and]at hj
  subst hj
  obtain⟨v,w',e1,rfl,e3⟩:=fin none 0 (.inl ⟨rfl,rfl,rfl⟩)
  exact⟨_,_,e1,hn _ _ ν2 e3 (by simp[V]) (hE _)⟩
 ·simp only[CV.i,CV.int.injEq,true_and]at hj
  subst hj
  obtain⟨v,w',e1,rfl,e3⟩:=fin (some .ret) 2 (.inr (.inr (.inl ⟨rfl,rfl,rfl⟩)))
  exact⟨_,_,e1,hn _ _ ν2 e3 (by simp[V]) (hE _)⟩
 ·simp only[CV.i,CV.int.injEq,true_and]at hj
  subst hj
  obtain⟨v,w',e1,rfl,e3⟩:=fin (some (.exit id)) (id+3) (.inr (.inr (.inr ⟨id,rfl,rfl,rfl⟩)))
  refine⟨_,_,e1,hn _ _ ν2 ?_ ?_ (hE _)⟩
  ·rw[if_neg oM,show(id:Int)+2+1=id+3 from by omega];exact e3
  ·simp only[V];simp;omega
theorem YG{t:Nat}{name:String}{f:Nat}(h:Zk (VU P) t name=some f):
  ∃i m fs,P.info? t=some i∧P.underlying t=some (.struct fs)∧i.methods.find? (fun m=>m.name==name)=some m∧m.func=some (f,false)∧m.path.isEmpty=true∧f<RB:=by
 unfold Zk at h
 rw[GR]at h
 obtain⟨e,he,rfl⟩:=h
 have hm:=List.mem_of_find?_eq_some he
 have hp:=OL he
 simp only[JQ,beq_iff_eq]at hp
 obtain⟨hp1,hp2⟩:=hp
 unfold VU at hm
 rw[List.mem_flatMap]at hm
 obtain⟨u,_,hm⟩:=hm
 split at hm
 ·rename_i i fs hi hu
  split at hm
  ·rw[List.mem_filterMap]at hm
   obtain⟨m0,_,hm⟩:=hm
   split at hm
   ·rename_i m hf
    split at hm
    ·rename_i g hg
     split at hm
     ·rename_i WC
      simp only[Gx]at hm
      subst hm
      simp only at hp1 hp2
      subst hp1;subst hp2
      simp only[JQ,decide_eq_true_eq]at WC
      exact⟨i,m,fs,hi,hu,hf,hg,WC.1,WC.2⟩
     ·cases hm
    ·cases hm
   ·cases hm
  ·cases hm
 ·cases hm
theorem Zw{t:Nat}{name:String}{f:Nat}(h:Zk (VU P) t name=some f)(v:Value)(args:Array Value):
  (callMethod (.iface t v) name args).run P w=(callFunc f (#[v]++args)).run P w:=by
 obtain⟨i,m,fs,hi,hu,hf,hg,WC,-⟩:=YG h
 have hp:m.path=#[]:=by simpa using WC
 have hd:0<Made.depth:=by decide
 obtain⟨n,hn⟩:∃n,P.types.size+Made.depth=n+1:=⟨P.types.size+Made.depth-1,oM⟩
 simp[callMethod,hn,method,Y7 hi,hf,hp,follow,hg,receiverAt,run_underlying hu,Place.get]
def WL:Ko→Bool
 |.store .. |.append .. |.copy .. |.clear .. |.call .. |.AX .. |.Nz .. |.RP .. |.QY .. |.VE .. |.Vf .. |.Fq .. |.KL .. =>false
 |_=>true
theorem Vi{op:Ko}(h:WL op=true):K3 F op E H=(GL op E H).map (made H):=by
 cases op<;>first|rfl|cases h
theorem Gaj{oop:Op}{op:Ko}(h:GX P oop=some op):WL op=true∨(∃t x v,oop=.store t x v)∨(∃c,oop=.call c)∨∃t p x v,oop=.mapUpdate t p x v:=by
 cases oop with
 |store t x v=>exact .inr (.inl ⟨t,x,v,rfl⟩)
 |call c=>exact .inr (.inr (.inl ⟨c,rfl⟩))
 |makeMap t r=>
  cases r with
  |none=>
   simp only[GX,GR]at h
   obtain⟨_,_,rfl⟩:=h
   exact .inl rfl
  |some r=>cases h
 |mapUpdate t p x v=>exact .inr (.inr (.inr ⟨t,p,x,v,rfl⟩))
 |index t x i=>
  refine .inl ?_
  cases x with
  |const v=>
   cases v with
   |string s=>
    simp only[GX]at h
    split at h
    ·rw[GR]at h
     obtain⟨_,_,rfl⟩:=h
     rfl
    ·cases h
   |_=>cases h
  |tmp x=>
   simp only[GX]at h
   split at h
   ·obtain⟨_,h⟩:=G_ h
    simp only[Jt,GR]at h
    obtain⟨_,_,_,_,rfl⟩:=h
    rfl
   ·cases h
  |_=>cases h
 |load t x=>
  refine .inl ?_
  cases x<;>simp only[GX,MJ,Jt,GR]at h
  case global=>
   obtain⟨zs,_,h⟩:=h
   split at h
   ·simp only[Gx]at h;subst h;rfl
   ·cases h
  all_goals (obtain⟨_,_,_,_,_,_,rfl⟩:=h;rfl)
 |binOp op' t x y yt=>
  simp only[GX,Jt]at h
  obtain⟨_,_,_,_,h⟩:=h
  refine .inl ?_
  split at h
  ·cases op'<;>simp at h<;>(subst h;rfl)
  ·cases op'<;>simp at h<;>(subst h;rfl)
  ·cases op'<;>simp at h<;>(subst h;rfl)
  ·cases op'<;>simp at h<;>(subst h;rfl)
  ·obtain⟨_,h⟩:=G_ h
   cases op'<;>simp at h<;>(subst h;rfl)
  ·obtain⟨_,h⟩:=G_ h
   cases op'<;>simp at h<;>(subst h;rfl)
  ·cases h
 |build t parts=>
  simp only[GX]at h
  split at h
  ·simp only[Jt,GR]at h
   obtain⟨_,_,_,_,_,_,rfl⟩:=h
   exact .inl rfl
  ·simp only[Jt,GR]at h
   obtain⟨_,_,_,_,_,_,rfl⟩:=h
   exact .inl rfl
  ·cases h
 |fieldAddr t x f=>
  simp only[GX]at h
  split at h
  ·simp only[Jt]at h
   obtain⟨_,_,_,_,_,_,h⟩:=h
   obtain⟨_,h⟩:=G_ h
   simp only[Gx]at h
   subst h
   exact .inl rfl
  ·cases h
 |buildSlice t n parts=>
  simp only[GX,Jt]at h
  obtain⟨_,_,_,_,_,_,_,_,h⟩:=h
  obtain⟨_,h⟩:=G_ h
  simp only[Gx]at h
  subst h
  exact .inl rfl
 |makeSlice t l c=>
  simp only[GX,Jt]at h
  obtain⟨_,_,_,_,_,_,_,_,_,_,_,_,h⟩:=h
  obtain⟨_,h⟩:=G_ h
  simp only[Gx]at h
  subst h
  exact .inl rfl
 |convert s d x=>
  simp only[GX]at h
  split at h
  ·simp only[GR]at h
   obtain⟨_,_,rfl⟩:=h
   exact .inl rfl
  ·cases h
 |indexAddr t x ix=>
  simp only[GX]at h
  split at h
  ·simp only[Jt,GR]at h
   obtain⟨_,_,_,_,_,_,rfl⟩:=h
   exact .inl rfl
  ·simp only[Jt,GR]at h
   obtain⟨_,_,_,_,_,_,rfl⟩:=h
   exact .inl rfl
  ·cases h
 |unOp op' t x=>
  cases op'<;>simp only[GX,GR]at h<;>first|cases h;done|(obtain⟨_,_,rfl⟩:=h;exact .inl rfl)
 |makeInterface t x=>
  simp only[GX]at h
  split at h
  ·simp only[GR]at h
   obtain⟨_,_,rfl⟩:=h
   exact .inl rfl
  ·cases h
 |makeFunc fn first caps=>
  cases fn<;>simp only[GX]at h<;>first|cases h;done|skip
  ·split at h
   ·simp only[GR]at h
    obtain⟨_,_,rfl⟩:=h
    exact .inl rfl
   ·cases h
  ·split at h
   ·split at h
    ·simp only[GR]at h
     obtain⟨_,_,rfl⟩:=h
     exact .inl rfl
    ·cases h
   ·cases h
 |_=>
  simp only[GX,Jt,GR]at h
  first
  |cases h;done
  |(obtain⟨_,_,rfl⟩:=h;exact .inl rfl)
  |(obtain⟨_,_,_,_,rfl⟩:=h;exact .inl rfl)
  |(obtain⟨_,_,_,_,_,_,rfl⟩:=h;exact .inl rfl)
  |(obtain⟨_,_,_,_,_,_,_,_,rfl⟩:=h;exact .inl rfl)
  |(obtain⟨_,_,_,_,_,_,_,_,_,_,rfl⟩:=h;exact .inl rfl)
  |(obtain⟨_,_,_,_,_,_,_,_,_,_,_,_,rfl⟩:=h;exact .inl rfl)
theorem GaM(hF:Ei P F)(hBr:Sj P B)(hS:St K B L ν H w){o:Oper}{op:Ko}(hc:GX P o.op=some op)(hE:∀t∈op.tmps,V ν (E t) (a.tmps.getD t undef)){r:CV×Gb}(h:K3 F op E H=some r)(hL:r.2.length≤L):
  Next.after rd dp P o a w K B L H ν r:=by
 have hnd:=U8 hc
 rcases Gaj hc with hst|⟨t,x,v,ho⟩|⟨c,ho⟩|⟨t,p,x,v,ho⟩
 rotate_left 3
 ·have hc':=hc
  rw[ho]at hc'
  simp only[GX,Jt,GR]at hc'
  obtain⟨q,hq,p',hp,x',hx,v',hv,rfl⟩:=hc'
  have h1:=Jl hp (fun t ht=>hE t (by simp[Ko.tmps,ht]))
  have h2:=Jl hx (fun t ht=>hE t (by simp[Ko.tmps,ht]))
  have h3:=Jl hv (fun t ht=>hE t (by simp[Ko.tmps,ht]))
  simp only[K3,Vu,GR]at h
  obtain⟨H',hH,rfl⟩:=h
  obtain⟨w',hr,hS'⟩:=XI (P:=P) hS.Nh h1 h2 h3 hq hH
  have hlen:=Dz hH
  refine Iy hnd (w':=w') (ν':=ν) ?_ ⟨hS',fun b' hb' hl'=>hS.dom b' (by dsimp only at hb';omega) hl'⟩ rfl ⟨by dsimp only;omega,fun _ _=>rfl,fun _ _=>rfl⟩
  simp[execOp,ho,hr]
 ·rw[Vi hst,GR]at h
  obtain⟨m,hm,rfl⟩:=h
  exact U_ hBr.glob hS hc hE hm hL
 ·have hc':=hc
  rw[ho]at hc'
  simp only[GX,Jt,GR]at hc'
  obtain⟨n,hn,x',hx,v',hv,rfl⟩:=hc'
  have h1:=Jl hx (fun t ht=>hE t (by simp[Ko.tmps,ht]))
  have h2:=Jl hv (fun t ht=>hE t (by simp[Ko.tmps,ht]))
  simp only[K3,Vu]at h
  split at h
  ·rename_i b off hb
   split at h
   ·rename_i hl
    rw[GR]at h
    obtain⟨H',hs,rfl⟩:=h
    rw[hb]at h1
    simp only[V]at h1
    obtain⟨m,hm,he⟩:=h1
    obtain⟨w',hr,hS',hlen⟩:=GcB (P:=P) hS hn hm h2 hl hs
    refine Iy hnd (w':=w') (ν':=ν) ?_ hS' rfl ⟨by dsimp only;omega,fun _ _=>rfl,fun _ _=>rfl⟩
    simp[execOp,ho,Instr.storeAt,he,Instr.sureAddr,hr]
   ·cases h
  ·cases h
 ·obtain⟨callee,args,argTypes⟩:=c
  have hc':=hc
  rw[ho]at hc'
  simp only[GX,I8]at hc'
  split at hc'
  ·rename_i f
   rw[Jt]at hc'
   obtain⟨l,hl,hc'⟩:=hc'
   obtain⟨hfb,hc'⟩:=G_ hc'
   simp only[Gx]at hc'
   subst hc'
   simp only[K3]at h
   refine UQ hF hBr hS hnd (of_decide_eq_true hfb) h hL (Ui hl (fun t ht=>hE t (by simpa[Ko.tmps]using ht))) fun fn h1 h2 h3=>?_
   simp[execOp,ho,resolve,Act.eval,Deferred.ofValue,invoke,NV h1 h2 h3]
  ·rename_i t
   simp only[GR]at hc'
   obtain⟨l,hl,hop⟩:=hc'
   split at hop
   ·subst hop
    simp only[K3]at h
    split at h
    ·rename_i f caps hf
     have h1:V ν (E t) (a.tmps.getD t undef):=hE t (by simp[Ko.tmps,Ji])
     simp only[Env.ev]at hf
     rw[hf]at h1
     simp only[V]at h1
     obtain⟨vs,hvs,hvl⟩:=h1
     split at h
     case isFalse=>cases h
     rename_i hfb
     have hargs:=Ui (a:=a) (ν:=ν) (E:=E) hl (fun t ht=>hE t (by simp[Ko.tmps]at ht⊢;exact .inr ht))
     refine UQ (args':=args.map a.eval++vs) hF hBr hS hnd hfb h hL (by rw[Array.toList_append];exact hargs.append hvl) fun fn h1 h2 h3=>?_
     have he:a.eval (.tmp t)=.func (.func f) #[] vs:=hvs
     simp[execOp,ho,resolve,he,Deferred.ofValue,invoke,NV h1 h2 h3]
    ·rename_i b hf
     have h1:V ν (E t) (a.tmps.getD t undef):=hE t (by simp[Ko.tmps,Ji])
     simp only[Env.ev]at hf
     rw[hf]at h1
     simp only[V]at h1
     obtain⟨m,hm,hvs⟩:=h1
     have hargs:=Ui (a:=a) (ν:=ν) (E:=E) hl (fun t ht=>hE t (by simp[Ko.tmps]at ht⊢;exact .inr ht))
     refine FZ (args':=args.map a.eval) hF hBr hS hnd hm h hL hargs ?_
     have he:a.eval (.tmp t)=.func (.yield m.c) #[] #[]:=hvs
     simp[execOp,ho,resolve,he,Deferred.ofValue,invoke]
    ·cases h
   ·rename_i htb
    subst hop
    simp only[K3]at h
    split at h
    ·rename_i f caps hf
     have h1:V ν (E t) (a.tmps.getD t undef):=hE t (by simp[Ko.tmps,Ji])
     simp only[Env.ev]at hf
     rw[hf]at h1
     simp only[V]at h1
     obtain⟨vs,hvs,hvl⟩:=h1
     split at h
     case isFalse=>cases h
     rename_i hfb
     have hargs:=Ui (a:=a) (ν:=ν) (E:=E) hl (fun t ht=>hE t (by simp[Ko.tmps]at ht⊢;exact .inr ht))
     refine UQ (args':=args.map a.eval++vs) hF hBr hS hnd hfb h hL (by rw[Array.toList_append];exact hargs.append hvl) fun fn h1 h2 h3=>?_
     have he:a.eval (.tmp t)=.func (.func f) #[] vs:=hvs
     simp[execOp,ho,resolve,he,Deferred.ofValue,invoke,NV h1 h2 h3]
    ·rename_i name ty x hf
     rw[Jt]at h
     obtain⟨f,hmf,h⟩:=h
     have h1:V ν (E t) (a.tmps.getD t undef):=hE t (by simp[Ko.tmps,Ji])
     simp only[Env.ev]at hf
     rw[hf]at h1
     simp only[V]at h1
     obtain⟨u,hu,u',rfl,hux⟩:=h1
     have hargs:=Ui (a:=a) (ν:=ν) (E:=E) hl (fun t ht=>hE t (by simp[Ko.tmps]at ht⊢;exact .inr ht))
     refine UQ (args':=#[u']++args.map a.eval) hF hBr hS hnd (YG hmf).choose_spec.choose_spec.choose_spec.2.2.2.2.2 h hL (by rw[Array.toList_append];simp only[VL,List.cons_append,List.nil_append];exact⟨_,_,rfl,hux,hargs⟩) fun fn h1 h2 h3=>?_
     have he:a.eval (.tmp t)=.func (.method name) #[.iface ty u'] #[]:=hu
     have hcm:=Zw (w:=w) hmf u' (args.map a.eval)
     have hex:(#[Value.iface ty u']++args.map a.eval).extract 1 (#[Value.iface ty u']++args.map a.eval).size=args.map a.eval:=by
      apply Array.ext'
      simp
      exact NW sM
     have hget:(#[Value.iface ty u']++args.map a.eval)[0]?=some (.iface ty u'):=by rw[Array.getElem?_append_left sM];rfl
     simp only[execOp,ho,resolve,he,Deferred.ofValue,Sem.run_bind,Sem.run_pure,Result.andThen_ok,invoke,hget,hex,hcm,NV h1 h2 h3]
    ·rename_i b hf
     have h1:V ν (E t) (a.tmps.getD t undef):=hE t (by simp[Ko.tmps,Ji])
     simp only[Env.ev]at hf
     rw[hf]at h1
     simp only[V]at h1
     obtain⟨m,hm,hvs⟩:=h1
     have hargs:=Ui (a:=a) (ν:=ν) (E:=E) hl (fun t ht=>hE t (by simp[Ko.tmps]at ht⊢;exact .inr ht))
     refine FZ (args':=args.map a.eval) hF hBr hS hnd hm h hL hargs ?_
     have he:a.eval (.tmp t)=.func (.yield m.c) #[] #[]:=hvs
     simp[execOp,ho,resolve,he,Deferred.ofValue,invoke]
    ·cases h
  ·rename_i recv name
   simp only[Jt,GR]at hc'
   obtain⟨x,hx,l,hl,rfl⟩:=hc'
   simp only[K3]at h
   split at h
   ·rename_i ty y hf
    rw[Jt]at h
    obtain⟨f,hmf,h⟩:=h
    have h1:=Jl hx (fun t ht=>hE t (by simp[Ko.tmps,ht]))
    rw[hf]at h1
    simp only[V]at h1
    obtain⟨u',hu,hux⟩:=h1
    have hargs:=Ui (a:=a) (ν:=ν) (E:=E) hl (fun t ht=>hE t (by simp[Ko.tmps]at ht⊢;exact .inr ht))
    refine UQ (args':=#[u']++args.map a.eval) hF hBr hS hnd (YG hmf).choose_spec.choose_spec.choose_spec.2.2.2.2.2 h hL (by rw[Array.toList_append];simp only[VL,List.cons_append,List.nil_append];exact⟨_,_,rfl,hux,hargs⟩) fun fn h1 h2 h3=>?_
    have hcm:=Zw (w:=w) hmf u' (args.map a.eval)
    have hex:(#[Value.iface ty u']++args.map a.eval).extract 1 (#[Value.iface ty u']++args.map a.eval).size=args.map a.eval:=by
     apply Array.ext'
     simp
     exact NW sM
    have hget:(#[Value.iface ty u']++args.map a.eval)[0]?=some (.iface ty u'):=by rw[Array.getElem?_append_left sM];rfl
    simp only[execOp,ho,resolve,hu,Sem.run_bind,Sem.run_pure,Result.andThen_ok,invoke,hget,hex,hcm,NV h1 h2 h3]
   ·cases h
  ·split at hc'
   ·rename_i p x t hxs hts
    simp only[Jt,GR]at hc'
    obtain⟨q,hq,p',hp,x',hx,rfl⟩:=hc'
    have ha:args=#[p,x]:=by rw[←Array.toArray_toList (xs:=args),hxs]
    subst ha
    have h1:=Jl hp (fun t ht=>hE t (by simp[Ko.tmps,ht]))
    have h2:=Jl hx (fun t ht=>hE t (by simp[Ko.tmps,ht]))
    simp only[K3,Vu,GR]at h
    obtain⟨H',hH,rfl⟩:=h
    obtain⟨w',hr,hS'⟩:=Xv (P:=P) hS.Nh h1 h2 (ty:=o.type) (t2:=t) hq hH (ts:=argTypes) hts
    have hlen:=Ef hH
    refine JB hnd (v':=.tuple #[]) (w':=w') (ν':=ν) ?_ ⟨hS',fun b' hb' hl'=>hS.dom b' (by dsimp only at hb';omega) hl'⟩ (by simp[V,VL]) ⟨by dsimp only;omega,fun _ _=>rfl,fun _ _=>rfl⟩
    simp[execOp,ho,resolve,invoke,builtin,hr]
   ·cases hc'
  ·split at hc'
   ·split at hc'
    ·simp only[GR]at hc'
     obtain⟨_,_,rfl⟩:=hc'
     rw[Vi rfl,GR]at h
     obtain⟨m,hm,rfl⟩:=h
     exact U_ hBr.glob hS hc hE hm hL
    simp only[Jt,GR]at hc'
    obtain⟨_,_,_,_,rfl⟩:=hc'
    rw[Vi rfl,GR]at h
    obtain⟨m,hm,rfl⟩:=h
    exact U_ hBr.glob hS hc hE hm hL
   ·cases hc'
  ·split at hc'
   ·split at hc'
    ·simp only[GR]at hc'
     obtain⟨_,_,rfl⟩:=hc'
     rw[Vi rfl,GR]at h
     obtain⟨m,hm,rfl⟩:=h
     exact U_ hBr.glob hS hc hE hm hL
    ·cases hc'
   ·cases hc'
  ·split at hc'
   ·split at hc'
    ·simp only[GR]at hc'
     obtain⟨_,_,rfl⟩:=hc'
     rw[Vi rfl,GR]at h
     obtain⟨m,hm,rfl⟩:=h
     exact U_ hBr.glob hS hc hE hm hL
    ·cases hc'
   ·cases hc'
  ·split at hc'
   ·rename_i s x t u hxs hts
    simp only[Jt]at hc'
    obtain⟨e,he,e',he',n,hn,b,hb,z,hz,s',hs,x',hx,hg⟩:=hc'
    obtain⟨hgd,hop⟩:=G_ hg
    simp only[Gx]at hop
    subst hop
    simp only[JQ,decide_eq_true_eq]at hgd
    obtain⟨⟨⟨hn0,hb0⟩,hb4⟩,hzl⟩:=hgd
    obtain⟨i,v,hi,hv,hV⟩:=Us ν hz
    have ha:args=#[s,x]:=by rw[←Array.toArray_toList (xs:=args),hxs]
    have hat:argTypes=#[t,u]:=by rw[←Array.toArray_toList (xs:=argTypes),hts]
    subst ha;subst hat
    have h1:=Jl hs (fun t ht=>hE t (by simp[Ko.tmps,ht]))
    have h2:=Jl hx (fun t ht=>hE t (by simp[Ko.tmps,ht]))
    simp only[K3,Vu,Jt]at h
    obtain⟨q,hq,h⟩:=h
    have hT:GcP P t u n e i v:=by
     refine⟨Jz he,⟨e',Jz he'⟩,hi,hv,?_,?_,?_,hn0⟩
     ·obtain⟨i',hi',rfl⟩:=Yx hn
      rw[hi]at hi';simp only[Gx]at hi';subst hi';rfl
     ·have:=hV.length;simp at this;omega
     ·simp only[Mg,hi,Option.map_some,Gx]at hb;omega
    obtain⟨v',w',ν',hr,hS',hV',hx'⟩:=XK (P:=P) (ty:=o.type) hS hT h1 h2 hq h hL
    exact JB hnd (v':=v') (by simp[execOp,ho,resolve,invoke,builtin,hr]) hS' hV' hx'
   ·cases hc'
  ·split at hc'
   ·rename_i d s t u hxs hts
    simp only[Jt,GR]at hc'
    obtain⟨e,he,e',he',n,hn,d',hd,s',hs,rfl⟩:=hc'
    have ha:args=#[d,s]:=by rw[←Array.toArray_toList (xs:=args),hxs]
    have hat:argTypes=#[t,u]:=by rw[←Array.toArray_toList (xs:=argTypes),hts]
    subst ha;subst hat
    have h1:=Jl hd (fun t ht=>hE t (by simp[Ko.tmps,ht]))
    have h2:=Jl hs (fun t ht=>hE t (by simp[Ko.tmps,ht]))
    have hu:=Jz he
    have idle:∀(db sb:Option Addr)(dl dc sl sc:Nat),a.eval d=.slice db dl dc→a.eval s=.slice sb sl sc→Nat.min sl dl=0→(execOp a.eval o).run P w=.ok (.value (.int .i64 0)) w:=by
     intro db sb dl dc sl sc e1 e2 e3
     have hf:(Builtin.firstCells n 0 (.slice sb sl sc)).run P w=.ok #[] w:=by
      cases sb with
      |none=>exact run_firstCells_none w _ _ _ _
      |some ad=>exact run_firstCells_some w n 0 ad sl sc [] sM sM
     cases db<;>simp[execOp,ho,resolve,invoke,builtin,Builtin.copy_,run_underlying hu,e1,e2,Builtin.lenOf,e3,JE hn,hf,goInt,storeCells]
    simp only[K3,Vu]at h
    split at h
    ·rename_i b1 o1 l1 c1 z1 t1 b2 o2 l2 c2 z2 t2 e1 e2
     rw[e1]at h1
     rw[e2]at h2
     simp only[V]at h1 h2
     obtain⟨m1,k1,f1,hm1,hz1,hv1,hl1,ht1,ho1,GkS⟩:=h1
     obtain⟨m2,k2,f2,hm2,hz2,hv2,hl2,ht2,ho2,Mi⟩:=h2
     split at h
     ·rename_i h0
      simp only[Gx]at h
      subst h
      exact JB hnd (idle _ _ _ _ _ _ hv1 hv2 h0) hS (by simp[V]) (Ext.refl _ _ _)
     ·rename_i h0
      rw[Jt]at h
      obtain⟨cs,hcs,h⟩:=h
      rw[GR]at h
      obtain⟨H',hH',rfl⟩:=h
      have f1':=ho1.resolve_left oM
      have f2':=ho2.resolve_left oM
      obtain⟨hlen,vs,hvs,hcell⟩:=hS.Nh.Km hcs hm2
      obtain⟨w',hst,hS',hle⟩:=P_ (P:=P) hS hm1 hvs hH'
      have hf:(Builtin.firstCells n (Nat.min l2 l1) (.slice (some ⟨m2.c,f2,none⟩) l2 k2)).run P w=.ok vs.toArray w:=
       run_firstCells_some w n _ _ _ _ vs (by rw[hvs.length,hlen]) fun j u hu=>by rw[Addr.add_lit,f2'];exact hcell j u hu
      refine JB hnd (v':=.int .i64 (min l2 l1:Nat)) (w':=w') (ν':=ν) ?_ hS' (by simp[V]) ⟨by dsimp only;omega,fun _ _=>rfl,fun _ _=>rfl⟩
      have hst':(storeCells ⟨m1.c,f1,none⟩ vs).run P w=.ok () w':=by rw[f1'];exact hst
      simp[execOp,ho,resolve,invoke,builtin,Builtin.copy_,run_underlying hu,hv1,hv2,Builtin.lenOf,JE hn,hf,goInt,hst']
    ·rename_i b2 o2 l2 c2 z2 t2 e1 e2
     rw[e1]at h1
     rw[e2]at h2
     simp only[V]at h1 h2
     obtain⟨m2,k2,f2,hm2,hz2,hv2,_⟩:=h2
     simp only[Gx]at h
     subst h
     exact JB hnd (idle _ _ _ _ _ _ h1 hv2 (Nat.min_zero _)) hS (by simp[V]) (Ext.refl _ _ _)
    ·rename_i b2 o2 l2 c2 z2 t2 e1 e2
     rw[e1]at h1
     rw[e2]at h2
     simp only[V]at h1 h2
     obtain⟨m2,k2,f2,hm2,hz2,hv2,_⟩:=h1
     simp only[Gx]at h
     subst h
     exact JB hnd (idle _ _ _ _ _ _ hv2 h2 (Nat.zero_min _)) hS (by simp[V]) (Ext.refl _ _ _)
    ·rename_i e1 e2
     rw[e1]at h1
     rw[e2]at h2
     simp only[V]at h1 h2
     simp only[Gx]at h
     subst h
     exact JB hnd (idle _ _ _ _ _ _ h1 h2 (Nat.zero_min _)) hS (by simp[V]) (Ext.refl _ _ _)
    ·cases h
   ·cases hc'
  ·split at hc'
   ·rename_i s t hxs hts
    have ha:args=#[s]:=by rw[←Array.toArray_toList (xs:=args),hxs]
    subst ha
    split at hc'
    ·rename_i q hq
     simp only[GR]at hc'
     obtain⟨s',hs,rfl⟩:=hc'
     have h1:=Jl hs hE
     obtain⟨k,e,_,_,hu,_⟩:=Vd hq
     simp only[K3,Vu]at h
     split at h
     ·rename_i b hb
      rw[GR]at h
      obtain⟨H',hH,rfl⟩:=h
      rw[hb]at h1
      obtain⟨w',hr,hS'⟩:=R5 (P:=P) hS.Nh h1 (ty:=o.type) hq hH (ts:=argTypes) hts
      have hlen:=QD hH
      refine JB hnd (v':=.tuple #[]) (w':=w') (ν':=ν) ?_ ⟨hS',fun b' hb' hl'=>hS.dom b' (by dsimp only at hb';omega) hl'⟩ (by simp[V,VL]) ⟨by dsimp only;omega,fun _ _=>rfl,fun _ _=>rfl⟩
      simp[execOp,ho,resolve,invoke,builtin,hr]
     ·rename_i hb
      simp only[Gx]at h
      subst h
      rw[hb]at h1
      simp only[V]at h1
      refine JB hnd (v':=.tuple #[]) (w':=w) (ν':=ν) ?_ hS (by simp[V,VL]) (Ext.refl _ _ _)
      simp[execOp,ho,resolve,invoke,builtin,Builtin.clear_,hts,run_underlying hu,h1]
     ·cases h
    simp only[Jt,GR]at hc'
    obtain⟨e,he,z,hz,s',hs,rfl⟩:=hc'
    have h1:=Jl hs hE
    obtain⟨i,v,hi,hv,hV⟩:=Us ν hz
    have hu:=Jz he
    simp only[K3,Vu]at h
    split at h
    ·rename_i b1 o1 l1 c1 z1 t1 e1
     rw[e1]at h1
     simp only[V]at h1
     obtain⟨m1,k1,f1,hm1,hz1,hv1,hl1,ht1,ho1,GkS⟩:=h1
     split at h
     ·rename_i h0
      subst h0
      simp only[Gx]at h
      subst h
      refine JB hnd (v':=.tuple #[]) (w':=w) (ν':=ν) ?_ hS (by simp[V,VL]) (Ext.refl _ _ _)
      simp[execOp,ho,resolve,invoke,builtin,Builtin.clear_,hts,run_underlying hu,hv1]
     ·rename_i h0
      rw[GR]at h
      obtain⟨H',hH',rfl⟩:=h
      have f1':=ho1.resolve_left oM
      have hz0:=YW hV l1
      rw[←EJ]at hz0
      obtain⟨w',hst,hS',hle⟩:=P_ (P:=P) hS hm1 hz0 hH'
      refine JB hnd (v':=.tuple #[]) (w':=w') (ν':=ν) ?_ hS' (by simp[V,VL]) ⟨by dsimp only;omega,fun _ _=>rfl,fun _ _=>rfl⟩
      have hst':(storeCells ⟨m1.c,f1,none⟩ (Builtin.zeroCells v.cells l1).toList).run P w=.ok () w':=by rw[f1'];exact hst
      obtain⟨l,rfl⟩:∃l,l1=l+1:=⟨l1-1,oM⟩
      refine Jb (s:=Builtin.clear_ argTypes o.type #[a.eval s]) (by simp[execOp,ho,resolve,invoke,builtin]) ?_
      simp only[Builtin.clear_,hv1]
      simp[hts,run_underlying hu,Kj hi hv,hst']
    ·rename_i e1
     rw[e1]at h1
     simp only[V]at h1
     simp only[Gx]at h
     subst h
     refine JB hnd (v':=.tuple #[]) (w':=w) (ν':=ν) ?_ hS (by simp[V,VL]) (Ext.refl _ _ _)
     simp[execOp,ho,resolve,invoke,builtin,Builtin.clear_,hts,run_underlying hu,h1]
    ·cases h
   ·cases hc'
  ·cases hc'
end
end Go.Cs
namespace Go.Cs
open Go Go.RowKit
def H_(l:List GQ)(q:Nat):Nat:=((l.take q).filter fun x=>x.kind==3).length
theorem Gdd{l:List GQ}{q:Nat}{d:GQ}(h:l[q]?=some d):H_ l (q+1)=H_ l q+if d.kind=3 then 1 else 0:=by
 unfold H_
 rw[QL,h]
 simp only[VT,List.filter_append,Nq]
 congr 1
 by_cases h3:d.kind=3<;>simp[h3]
structure Ab(P:Program)(N:Nat)(ops:Array Oper)(an:List (List Nat))(l:List GQ):Prop where
 len:l.length=ops.size
 stmt:∀(q:Nat)(d:GQ),l[q]?=some d→∃o,ops[d.no]?=some o∧Na P N ops o=some d.s
 kind:∀(q:Nat)(d:GQ),l[q]?=some d→(d.kind=0∨d.kind=1∨d.kind=3)∧(d.kind=0→kindOf d.s.op=0)
 all:∀j,j<ops.size→∃(q:Nat)(d:GQ),l[q]?=some d∧d.no=j
 inj:∀(q r:Nat)(d c:GQ),l[q]?=some d→l[r]?=some c→d.no=c.no→q=r
 dst:∀(q r:Nat)(d c:GQ)(t:Nat),l[q]?=some d→l[r]?=some c→c.s.dst=some t→d.s.dst=some t→q=r
 reads:∀(q r:Nat)(d c:GQ)(t:Nat),l[q]?=some d→l[r]?=some c→c.s.dst=some t→t∈d.s.reads→(r<q∧c.no∈an.getD d.no [])∨(q≤r∧(q=r∨d.no∈an.getD c.no []))
 chain:∀(q r:Nat)(d c:GQ),l[q]?=some d→l[r]?=some c→c.kind=3→r<q→(d.kind=3∨H_ l r<d.low)→c.no∈an.getD d.no []
 before:∀(q r:Nat)(d c:GQ),l[q]?=some d→l[r]?=some c→d.kind=3→c.kind≠3→r<q→c.no∈an.getD d.no []
 low:∀(q:Nat)(d:GQ),l[q]?=some d→d.low≤H_ l q
 anc:∀(j i:Nat)(o:Oper),ops[j]?=some o→i∈an.getD j []→∃e∈Qj o,e<j∧(i=e∨i∈an.getD e [])
 edges:∀(j:Nat)(o:Oper),ops[j]?=some o→∀e∈Qj o,e<j
theorem UO{α:Type}{l:List α}{f:α×Nat→Bool}(h:l.zipIdx.all f=true){i:Nat}{x:α}(hx:l[i]?=some x):f (x,i)=true:=by
 rw[List.all_eq_true]at h
 exact h _ (List.mem_iff_getElem?.2 ⟨i,by simp[List.getElem?_zipIdx,hx]⟩)
theorem Gjv{P:Program}{N:Nat}{ops:Array Oper}{ss:List GZ}(hc:J3 (ops.toList.map (Na P N ops))=some ss){l:List GQ}(hl:∃ks,l=O_ ss (Lg ops.toList) ks)
  (hok:dOk ops.toList ss (Lg ops.toList) l=true):Ab P N ops (Lg ops.toList) l:=by
 generalize han:Lg ops.toList=an at*
 unfold dOk at hok
 simp only[JQ]at hok
 obtain⟨⟨⟨⟨⟨⟨⟨GqZ,Gly⟩,hlen⟩,hsl⟩,hkind⟩,hall⟩,GlX⟩,hlow⟩:=hok
 simp only[decide_eq_true_eq,Array.length_toList]at hlen hsl
 have hno:∀(q:Nat)(d:GQ),l[q]?=some d→d.no<ops.size∧(d.kind=0∨d.kind=1∨d.kind=3)∧(d.kind=0→kindOf d.s.op=0):=by
  intro q d hd
  rw[List.all_eq_true]at hkind
  have:=hkind d (JX hd)
  simp only[JQ,decide_eq_true_eq,Array.length_toList]at this
  refine⟨this.1.1,by have h:=this.1.2;simp only[Bool.or_eq_true,beq_iff_eq]at h;omega,fun h0=>?_⟩
  have h2:=this.2
  rw[h0]at h2
  simpa using h2
 have hpr:∀(q r:Nat)(d c:GQ),l[q]?=some d→l[r]?=some c→_:=fun q r d c hd hc=>UO (UO GlX hd) hc
 refine⟨hlen,fun q d hd=>?_,fun q d hd=>(hno q d hd).2,fun j hj=>?_,fun q r d c hd hc' he=>?_,fun q r d c t hd hc' h1 h2=>?_,fun q r d c t hd hc' h1 h2=>?_,fun q r d c hd hc' h1 h2 h3=>?_,
  fun q r d c hd hc' h1 h2 h3=>?_,fun q d hd=>?_,fun j i o ho hi=>?_,fun j o ho e he=>?_⟩
 ·obtain⟨ks,rfl⟩:=hl
  unfold O_ at hd
  rw[Ke,GR]at hd
  obtain⟨j,hj,rfl⟩:=hd
  dsimp only
  have hj2:j<ops.size:=(hno q _ (by unfold O_;rw[Ke,hj];rfl)).1
  have hs:ss[j]?=some (ss.getD j default):=by rw[Qc,J9 oM];rfl
  have hx:=KU hc hs
  rw[Ke,GR]at hx
  obtain⟨o,ho,hso⟩:=hx
  exact⟨o,by simpa using ho,hso⟩
 ·rw[List.all_eq_true]at hall
  have:=hall j (List.mem_range.2 (by simpa using hj))
  rw[List.any_eq_true]at this
  obtain⟨d,hd,hdj⟩:=this
  obtain⟨q,hq⟩:=List.mem_iff_getElem?.1 hd
  simp only[JQ,beq_iff_eq]at hdj
  exact⟨q,d,hq,hdj.1⟩
 ·have:=hpr q r d c hd hc'
  simp only[JQ]at this
  have h1:=this.1.1.1
  simp only[Bool.or_eq_true,decide_eq_true_eq,bne_iff_ne]at h1
  exact h1.resolve_right (fun h=>h he)
 ·have:=hpr q r d c hd hc'
  simp only[JQ]at this
  have h3:=this.1.1.2
  rw[h1]at h3
  simp only[JQ,Bool.or_eq_true,decide_eq_true_eq,bne_iff_ne]at h3
  exact h3.1.resolve_right (fun h=>h h2)
 ·have:=hpr q r d c hd hc'
  simp only[JQ]at this
  have h3:=this.1.1.2
  rw[h1]at h3
  simp only[JQ,Bool.or_eq_true,decide_eq_true_eq,Bool.not_eq_true',List.contains_iff_mem]at h3
  rcases h3.2 with(h|h)|h
  ·rw[List.contains_iff_mem.2 h2]at h;cases h
  ·exact .inl h
  ·exact .inr h
 ·have:=hpr q r d c hd hc'
  simp only[JQ]at this
  have h4:=this.1.2
  simp only[Bool.or_eq_true,Bool.not_eq_true',List.contains_iff_mem]at h4
  rcases h4 with h|h
  ·have h5:(c.kind==3&&decide (r<q)&&(d.kind==3||decide (((l.take r).filter fun x=>x.kind==3).length<d.low)))=true:=by
    simp only[JQ,beq_iff_eq,decide_eq_true_eq,Bool.or_eq_true]
    exact⟨⟨h1,h2⟩,h3⟩
   rw[h5]at h;cases h
  ·exact h
 ·have:=hpr q r d c hd hc'
  simp only[JQ]at this
  have h4:=this.2
  simp only[Bool.or_eq_true,Bool.not_eq_true',List.contains_iff_mem]at h4
  rcases h4 with h|h
  ·have h5:(d.kind==3&&c.kind != 3&&decide (r<q))=true:=by
    simp only[JQ,beq_iff_eq,decide_eq_true_eq,bne_iff_ne]
    exact⟨⟨h1,h2⟩,h3⟩
   rw[h5]at h;cases h
  ·exact h
 ·have:=UO hlow hd
  unfold H_
  simpa using this
 ·have h1:=UO GqZ (i:=j) (x:=o) (by simpa using ho)
  dsimp only at h1
  rw[List.all_eq_true]at h1
  have h2:=h1 i hi
  rw[List.any_eq_true]at h2
  obtain⟨e,he,h3⟩:=h2
  simp only[JQ,Bool.or_eq_true,decide_eq_true_eq,List.contains_iff_mem]at h3
  exact⟨e,he,h3.1,h3.2⟩
 ·have h1:=UO Gly (i:=j) (x:=o) (by simpa using ho)
  dsimp only at h1
  rw[List.all_eq_true]at h1
  simpa using h1 e he
theorem GcN{H:Gb}{b o:Nat}{v:CV}(bs:List JI)(h:QF H b o=some v):QF (H++bs) b o=some v:=by
 unfold QF at*
 split at h
 ·rename_i blk hb
  rw[QN (Ni.1 hb).1,hb]
  exact h
 ·cases h
theorem Ez{H:Gb}{b o n:Nat}{v:List CV}(bs:List JI)(h:Km H b o n=some v):Km (H++bs) b o n=some v:=by
 unfold Km at*
 split at h
 ·rename_i blk hb
  rw[QN (Ni.1 hb).1,hb]
  exact h
 ·cases h
theorem Gc8{H:Gb}{n:Nat}{c:CV}{q:Nat×List CV}(bs:List JI)(h:elems H n c=some q):elems (H++bs) n c=some q:=by
 unfold elems at*
 split at h
 ·exact h
 ·split at h
  ·rename_i h0;rw[if_pos h0];exact h
  ·rename_i h0
   rw[if_neg h0]
   rw[GR]at h⊢
   obtain⟨cs,hcs,rfl⟩:=h
   exact⟨cs,Ez bs hcs,rfl⟩
 ·cases h
theorem Ru{H:Gb}{Jf n:Nat}{s:CV}{new:List CV}{m:Option JI×(Nat→CV)}(bs:List JI)(h:NH H Jf s n new=some m):NH (H++bs) Jf s n new=some m:=by
 unfold NH at*
 split at h
 ·exact h
 ·split at h
  ·rename_i h0;rw[if_pos h0];exact h
  ·rename_i h0
   rw[if_neg h0]
   split at h
   ·rename_i hc
    rw[if_pos hc]
    rw[GR]at h⊢
    obtain⟨old,ho,rfl⟩:=h
    refine⟨old,?_,rfl⟩
    split at ho
    ·rename_i h0;rw[if_pos h0];exact ho
    ·rename_i h0;rw[if_neg h0];exact Ez bs ho
   ·cases h
 ·cases h
theorem Bb{H:Gb}{c:CV}{es:List CV}(bs:List JI)(h:entriesOf H c=some es):entriesOf (H++bs) c=some es:=by
 unfold entriesOf at h⊢
 split at h
 ·exact h
 ·split at h
  ·rename_i k hk
   rw[QN (Ni.1 hk).1]
   simp only[hk]
   exact h
  ·cases h
 ·cases h
theorem GeY{op:Ko}{E:Env}{H:Gb}{m:Option JI×(Nat→CV)}(bs:List JI)(h:GL op E H=some m):GL op E (H++bs)=some m:=by
 cases op with
 |load g n a=>
  simp only[GL]at h⊢
  split at h
  ·split at h
   ·rename_i hg
    rw[if_pos hg]
    rw[GR]at h⊢
    obtain⟨cs,hcs,rfl⟩:=h
    exact⟨cs,Ez bs hcs,rfl⟩
   ·rename_i hg
    rw[if_neg hg]
    rw[GR]at h⊢
    obtain⟨v,hv,rfl⟩:=h
    exact⟨v,GcN bs hv,rfl⟩
  ·cases h
 |append n s x=>
  simp only[GL,Jt]at h⊢
  obtain⟨q,hq,h⟩:=h
  exact⟨q,Gc8 bs hq,Ru bs h⟩
 |ZU m=>
  simp only[GL,GR]at h⊢
  obtain⟨es,hes,rfl⟩:=h
  exact⟨es,Bb bs hes,rfl⟩
 |Qo ok k z m x=>
  simp only[GL,GR]at h⊢
  obtain⟨v,hv,rfl⟩:=h
  refine⟨v,?_,rfl⟩
  unfold Q5 at hv⊢
  split at hv
  ·split at hv
   ·rename_i hk
    subst hk
    rw[Jt]at hv
    obtain⟨es,hes,hv⟩:=hv
    simp only[if_true,Bb bs hes,Option.bind_some]
    exact hv
   ·cases hv
  ·cases hv
 |_=>exact h
theorem GbX{op:Ko}(hk:kindOf op=0)(E:Env)(H H':Gb):GL op E H=GL op E H':=by
 cases op<;>first|rfl|cases hk
abbrev DSt:=Env×Gb×List Gb
open Classical in
noncomputable def VX(F:Jp)(d:GQ)(s:DSt):Option DSt:=
 if wanted d.s.guard s.1=false then some (s.1.put d.s.dst .undef,s.2.1,if d.kind=3 then s.2.1::s.2.2 else s.2.2)
 else if d.kind=3 then(K3 F d.s.op s.1 s.2.1).map fun p=>(s.1.put d.s.dst p.1,p.2,s.2.1::s.2.2)
 else(GL d.s.op s.1 s.2.1).bind fun m=>
  if d.kind=1→∀H'∈s.2.2.take (s.2.2.length-d.low),GL d.s.op s.1 H'=some m then some (s.1.put d.s.dst (made s.2.1 m).1,(made s.2.1 m).2,s.2.2)else none
structure Way(F:Jp)(l:List GQ)(st:Nat→DSt):Prop where
 step:∀(q:Nat)(d:GQ),l[q]?=some d→VX F d (st q)=some (st (q+1))
theorem Gby{F:Jp}:∀{l:List GQ}{E:Env}{H:Gb}{hs:List Gb}{r:Env×Gb},AL F l E H hs=some r→∃st,st 0=(E,H,hs)∧(st l.length).1=r.1∧(st l.length).2.1=r.2∧Way F l st
 |[],E,H,hs,r,h=>by
  simp only[AL,Gx]at h
  subst h
  exact⟨fun _=>(E,H,hs),rfl,rfl,rfl,⟨fun q d hd=>by simp at hd⟩⟩
 |d::l,E,H,hs,r,h=>by
  have key:∃s,VX F d (E,H,hs)=some s∧AL F l s.1 s.2.1 s.2.2=some r:=by
   unfold AL at h
   unfold VX
   dsimp only
   split at h
   ·rename_i hw
    rw[if_pos hw]
    exact⟨_,rfl,h⟩
   ·rename_i hw
    rw[if_neg hw]
    split at h
    ·rename_i h3
     rw[if_pos h3]
     rw[Jt]at h
     obtain⟨p,hp,h⟩:=h
     exact⟨_,by rw[hp];rfl,h⟩
    ·rename_i h3
     rw[if_neg h3]
     rw[Jt]at h
     obtain⟨m,hm,h⟩:=h
     split at h
     ·rename_i hck
      exact⟨_,by rw[hm,Option.bind_some,if_pos hck],h⟩
     ·cases h
  obtain⟨s,hs1,hs2⟩:=key
  obtain⟨st,h0,h1,h2,h3⟩:=Gby hs2
  refine⟨fun q=>match q with|0=>(E,H,hs)|q+1=>st q,rfl,h1,h2,⟨fun q c hc=>?_⟩⟩
  cases q with
  |zero=>
   simp at hc
   subst hc
   dsimp only
   rw[hs1,h0]
  |succ q=>
   simp at hc
   exact h3.step q c hc
section
variable {F : Jp} {l : List GQ} {st : Nat → DSt}
theorem EB{d:GQ}{s s':DSt}(h:VX F d s=some s'):∃v,s'.1=s.1.put d.s.dst v:=by
 unfold VX at h
 split at h
 ·simp only[Gx]at h;subst h;exact⟨_,rfl⟩
 ·split at h
  ·rw[GR]at h;obtain⟨p,_,rfl⟩:=h;exact⟨_,rfl⟩
  ·rw[Jt]at h
   obtain⟨m,_,h⟩:=h
   split at h
   ·simp only[Gx]at h;subst h;exact⟨_,rfl⟩
   ·cases h
theorem Gce(hF:VP F){d:GQ}{s s':DSt}(h:VX F d s=some s'):s.2.1.length≤s'.2.1.length:=by
 unfold VX at h
 split at h
 ·simp only[Gx]at h;subst h;exact Nat.le_refl _
 ·split at h
  ·rw[GR]at h;obtain⟨p,hp,rfl⟩:=h;exact Sa hF hp
  ·rw[Jt]at h
   obtain⟨m,_,h⟩:=h
   split at h
   ·simp only[Gx]at h;subst h;exact Mc _ _
   ·cases h
theorem Rf{d:GQ}{s s':DSt}(h:VX F d s=some s')(h3:d.kind≠3):s'.2.1=s.2.1∨∃b,s'.2.1=s.2.1++[b]:=by
 unfold VX at h
 split at h
 ·simp only[Gx]at h;subst h;exact .inl rfl
 ·rw[Jt]at h
  obtain⟨m,_,h⟩:=h
  split at h
  ·simp only[Gx]at h;subst h
   unfold made
   split
   ·exact .inl rfl
   ·exact .inr ⟨_,rfl⟩
  ·cases h
theorem La{d:GQ}{s s':DSt}(h:VX F d s=some s'):s'.2.2=if d.kind=3 then s.2.1::s.2.2 else s.2.2:=by
 unfold VX at h
 split at h
 ·simp only[Gx]at h;subst h;rfl
 ·split at h
  ·rename_i h3;rw[GR]at h;obtain⟨p,_,rfl⟩:=h;rw[if_pos h3]
  ·rename_i h3
   rw[Jt]at h
   obtain⟨m,_,h⟩:=h
   split at h
   ·simp only[Gx]at h;subst h;rw[if_neg h3]
   ·cases h
theorem Way.JK(hw:Way F l st)(hF:VP F){q q':Nat}(h:q≤q')(hl:q'≤l.length):(st q).2.1.length≤(st q').2.1.length:=by
 induction h with
 |refl=>exact Nat.le_refl _
 |@step k hk ih=>
  exact Jr (ih oM) (Gce hF (hw.step k _ (J9 oM)))
theorem Way.Tk(hw:Way F l st)(hd:∀(q r:Nat)(d c:GQ)(t:Nat),l[q]?=some d→l[r]?=some c→c.s.dst=some t→d.s.dst=some t→q=r) {r q:Nat} {c:GQ} {t:Nat} (hc:l[r]?=some c) (ht:c.s.dst=some t) (h:r<q) (hl:q≤l.length):
  (st q).1 t=(st (r+1)).1 t:=by
 induction h with
 |refl=>rfl
 |@step k hk ih=>
  have hx:l[k]?=some (l[k]'oM):=J9 oM
  obtain⟨v,hv⟩:=EB (hw.step k _ hx)
  rw[←ih oM,hv]
  cases hd':l[k].s.dst with
  |some d=>
   simp only[Env.put,Env.upd]
   rw[if_neg]
   intro e
   subst e
   have:=hd k r _ c t hx hc ht hd'
   have hk':r+1≤k:=hk
   omega
  |none=>rfl
theorem Way.L_(hw:Way F l st){q:Nat}{t:Nat}(hl:q≤l.length)(h:∀(r:Nat)(d:GQ),l[r]?=some d→d.s.dst≠some t):(st q).1 t=(st 0).1 t:=by
 induction q with
 |zero=>rfl
 |succ k ih=>
  have hx:l[k]?=some (l[k]'oM):=J9 oM
  obtain⟨v,hv⟩:=EB (hw.step k _ hx)
  rw[←ih oM,hv]
  cases hd':l[k].s.dst with
  |some d=>
   simp only[Env.put,Env.upd]
   rw[if_neg]
   intro e
   subst e
   exact h k _ hx hd'
  |none=>rfl
theorem Way.Gb6(hw:Way F l st){q:Nat}{t:Nat}(hl:q≤l.length)(h:∀(r:Nat)(d:GQ),r<q→l[r]?=some d→d.s.dst≠some t):(st q).1 t=(st 0).1 t:=by
 induction q with
 |zero=>rfl
 |succ k ih=>
  have hx:l[k]?=some (l[k]'oM):=J9 oM
  obtain⟨v,hv⟩:=EB (hw.step k _ hx)
  rw[←ih oM (fun r d hr=>h r d oM),hv]
  cases hd':l[k].s.dst with
  |some d=>
   simp only[Env.put,Env.upd]
   rw[if_neg]
   intro e
   subst e
   exact h k _ oM hx hd'
  |none=>rfl
theorem Way.GjF(hw:Way F l st)(h0:(st 0).2.2=[]){q:Nat}(hl:q≤l.length):(st q).2.2.length=H_ l q:=by
 induction q with
 |zero=>rw[h0];simp[H_]
 |succ k ih=>
  have hx:l[k]?=some (l[k]'oM):=J9 oM
  rw[La (hw.step k _ hx),Gdd hx,←ih oM]
  split<;>simp
theorem Way.GiX(hw:Way F l st)(h0:(st 0).2.2=[]){e q low:Nat}{d:GQ}(hd:l[e]?=some d) (h3:d.kind=3) (hlow:low≤H_ l e) (h:e<q) (hl:q≤l.length):
  (st e).2.1∈(st q).2.2.take ((st q).2.2.length-low):=by
 induction h with
 |refl=>
  have hle:=hw.GjF h0 (q:=e) oM
  rw[La (hw.step e _ hd),if_pos h3,List.length_cons,hle,show H_ l e+1-low=(H_ l e-low)+1 from by omega,List.take_succ_cons]
  exact NC
 |@step k hk ih=>
  have hx:l[k]?=some (l[k]'oM):=J9 oM
  have ih':=ih oM
  rw[La (hw.step k _ hx)]
  split
  ·have hle:low≤(st k).2.2.length:=by
    rcases QU (st k).2.2.length low with hlt|hge
    ·rw[show(st k).2.2.length-low=0 from by omega]at ih';simp at ih'
    ·exact hge
   rw[List.length_cons,show(st k).2.2.length+1-low=((st k).2.2.length-low)+1 from by omega,List.take_succ_cons]
   exact Um _ ih'
  ·exact ih'
theorem Way.grows(hw:Way F l st){p q:Nat}(h:p≤q)(hl:q≤l.length)(hs:∀(r:Nat)(d:GQ),p≤r→r<q→l[r]?=some d→d.kind≠3):∃bs,(st q).2.1=(st p).2.1++bs:=by
 induction h with
 |refl=>exact⟨[],sM⟩
 |@step k hk ih=>
  obtain⟨bs,hb⟩:=ih oM (fun r d h1 h2=>hs r d h1 oM)
  have hx:l[k]?=some (l[k]'oM):=J9 oM
  rcases Rf (hw.step k _ hx) (hs k _ hk oM hx)with h|⟨b,h⟩
  ·exact⟨bs,by rw[h,hb]⟩
  ·exact⟨bs++[b],by rw[h,hb,List.append_assoc]⟩
end
section
variable {P : Program} {N : Nat} {ops : Array Oper} {an : List (List Nat)} {l : List GQ}
def Closed(ops:Array Oper)(listed:Array Bool):Prop:=∀(j:Nat)(o:Oper),ops[j]?=some o→listed.getD j false=true→∀e∈Qj o,listed.getD e false=true
theorem Q_(hd:Ab P N ops an l){listed:Array Bool}(hc:Closed ops listed):∀(j:Nat)(o:Oper),ops[j]?=some o→(∀e∈Qj o,listed.getD e false=true)→∀i∈an.getD j [],listed.getD i false=true:=by
 intro j
 induction j using Nat.strongRecOn with
 |_ j ih=>
  intro o ho he i hi
  obtain⟨e,hee,hlt,h⟩:=hd.anc j i o ho hi
  rcases h with rfl|h
  ·exact he _ hee
  ·have hj:j<ops.size:=(N7.1 ho).1
   have hx:ops[e]?=some (ops[e]'oM):=O1 oM
   exact ih e hlt _ hx (hc e _ hx (he e hee)) i h
end
end Go.Cs
